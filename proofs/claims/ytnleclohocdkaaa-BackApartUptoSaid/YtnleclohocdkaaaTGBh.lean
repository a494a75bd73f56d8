/- own -/
import Derived.Test.YtnleclohocdkaaaTGBa
import Derived.Test.YtnleclohocdkaaaTGPc
import Derived.Test.YtnleclohocdkaaaTGM3
import Derived.Test.YtnleclohocdkaaaTDig
set_option maxRecDepth 100000
set_option linter.unusedSimpArgs false
set_option linter.unusedVariables false
set_option maxHeartbeats 4000000
namespace Go.Proofs.Ytnleclohocdkaaa
open Go.V Go
structure IP (gs : List (Nat × Nat)) (pl : List Int) (g : Nat → Nat → Prop) (n i : Nat) (t : Tr3) : Prop where
  le : i ≤ t.at_
  ml : t.at_ ≤ gs.length
  z : t.pc = 0 → t.c = noCaps ∧ t.at_ = i
  b0 : 1 ≤ t.pc → t.c 0 = pl.getD i 0
  b1 : t.pc ≤ n + 1 → t.c 1 = -1
  b2 : t.pc = n + 2 → t.c 1 = pl.getD t.at_ 0
  ins : ∀ s, 2 ≤ s → t.c s = -1 ∨ ∃ a, i ≤ a ∧ a ≤ t.at_ ∧ t.c s = pl.getD a 0
  gr : 1 ≤ t.pc → t.pc ≤ n + 1 → ∀ s, g t.pc s → s ≠ 0 → t.c s ≠ -1
  pr : ∀ k, 1 ≤ k → t.c (2 * k + 1) ≠ -1 → t.c (2 * k) ≠ -1
theorem IP.go {gs : List (Nat × Nat)} {pl : List Int} {g : Nat → Nat → Prop} {n i : Nat} {t : Tr3} {m a : Nat} (h : IP gs pl g n i t) (h1 : 1 ≤ t.pc) (h2 : t.pc ≤ n) (hm : 1 ≤ m ∧ m ≤ n + 1) (ha : t.at_ ≤ a ∧ a ≤ gs.length) (hg : ∀ s, g m s → g t.pc s) : IP gs pl g n i ⟨m, a, t.c⟩ := by
  refine ⟨Nat.le_trans h.le ha.1, ha.2, fun h0 => ?_, fun _ => h.b0 h1, fun _ => h.b1 (by omega), fun h0 => ?_, fun s hs => ?_, fun _ _ s hs h0 => h.gr h1 (by omega) s (hg s hs) h0, h.pr⟩
  · simp only at h0; omega
  · simp only at h0; omega
  · rcases h.ins s hs with h3 | ⟨b, h3, h4, h5⟩
    · exact .inl h3
    · exact .inr ⟨b, h3, Nat.le_trans h4 ha.1, h5⟩
theorem IP.save {gs : List (Nat × Nat)} {pl : List Int} {g : Nat → Nat → Prop} {n i : Nat} {t : Tr3} {x : Nat} (hpl : ∀ a, 0 ≤ pl.getD a 0) (h : IP gs pl g n i t) (h1 : 1 ≤ t.pc) (h2 : t.pc ≤ n) (hx : ∃ k, 1 ≤ k ∧ (x = 2 * k ∨ (x = 2 * k + 1 ∧ g t.pc (2 * k)))) (hg : ∀ s, g (t.pc + 1) s → g t.pc s ∨ x = s) : IP gs pl g n i ⟨t.pc + 1, t.at_, setC t.c x (pl.getD t.at_ 0)⟩ := by
  obtain ⟨k, hk, hx⟩ := hx
  have hp := hpl t.at_
  refine ⟨h.le, h.ml, fun h0 => ?_, fun _ => ?_, fun _ => ?_, fun h0 => ?_, fun s hs => ?_, fun _ _ s hs h0 => ?_, fun q hq hn => ?_⟩
  · simp only at h0; omega
  · show setC t.c x _ 0 = _; unfold setC; rw [if_neg (by omega)]; exact h.b0 h1
  · show setC t.c x _ 1 = _; unfold setC; rw [if_neg (by omega)]; exact h.b1 (by omega)
  · simp only at h0; omega
  · show setC t.c x _ s = _ ∨ _
    by_cases he : s = x
    · exact .inr ⟨t.at_, h.le, Nat.le_refl _, by show setC t.c x _ s = _; unfold setC; rw [if_pos he]⟩
    · unfold setC; rw [if_neg he]
      rcases h.ins s hs with h3 | h3
      · exact .inl h3
      · exact .inr (by simpa only [he, if_false] using h3)
  · show setC t.c x _ s ≠ _
    unfold setC
    split
    · omega
    · rename_i he
      rcases hg s hs with h3 | h3
      · exact h.gr h1 (by omega) s h3 h0
      · exact absurd h3.symm he
  · change setC t.c x _ (2 * q + 1) ≠ -1 at hn
    show setC t.c x _ (2 * q) ≠ -1
    unfold setC at hn ⊢
    split
    · omega
    · rename_i he
      split at hn
      · rename_i he2
        rcases hx with hx | ⟨hx, hgk⟩
        · omega
        · have : q = k := by omega
          subst this
          exact h.gr h1 (by omega) _ hgk (by omega)
      · exact h.pr q hq hn
theorem IP.step {tr : Tr} {r : Nat} {gs : List (Nat × Nat)} {pl : List Int} {g : Nat → Nat → Prop} {i : Nat} {t : Tr3} {l : List Tr3} (hpl : ∀ a, 0 ≤ pl.getD a 0) (hL : Lab (fun _ => False) (codeT tr 1) 1 (fun s => s = 0) g)
    (h : IP gs pl g (codeT tr 1).length i t) (hs : stepS (ruleC tr 0 r) gs pl t = .more l) : ∀ t' ∈ l, IP gs pl g (codeT tr 1).length i t' := by
  generalize hn : (codeT tr 1).length = n at *
  have hn' : (codeT tr (0 + 1)).length = n := hn
  have hc0 : (ruleC tr 0 r)[0]? = some (mkI 4 0 0 []) := rfl
  have hc1 : ∀ j, j < n → (ruleC tr 0 r)[j + 1]? = (codeT tr 1)[j]? := fun j hj => by
    show (mkI 4 0 0 [] :: (codeT tr (0 + 1) ++ _))[j + 1]? = _
    rw [List.getElem?_cons_succ, List.getElem?_append_left (by omega)]
  have hc2 : (ruleC tr 0 r)[n + 1]? = some (mkI 4 1 0 []) := by
    show (mkI 4 0 0 [] :: (codeT tr (0 + 1) ++ _))[n + 1]? = _
    rw [List.getElem?_cons_succ, List.getElem?_append_right (by omega), show n - (codeT tr (0 + 1)).length = 0 by omega]; rfl
  have hc3 : ∀ j, n + 1 ≤ j → (ruleC tr 0 r)[j + 1]? = none ∨ (ruleC tr 0 r)[j + 1]? = some (mkI 7 (r : Nat) 0 []) := fun j hj => by
    show (mkI 4 0 0 [] :: (codeT tr (0 + 1) ++ _))[j + 1]? = _ ∨ (mkI 4 0 0 [] :: (codeT tr (0 + 1) ++ _))[j + 1]? = _
    rw [List.getElem?_cons_succ, List.getElem?_append_right (by omega)]
    obtain ⟨q, hq⟩ : ∃ q, j - (codeT tr (0 + 1)).length = q + 1 := ⟨j - (codeT tr (0 + 1)).length - 1, by omega⟩
    rw [hq, List.getElem?_cons_succ]
    cases q with
    | zero => exact .inr rfl
    | succ q => exact .inl rfl
  unfold stepS at hs
  obtain ⟨pc, at_, c⟩ := t
  simp only at hs
  rcases pc with _ | j
  · rw [hc0] at hs
    obtain ⟨hz, he⟩ := h.z rfl
    simp only at hz he
    subst hz; subst he
    change Res.more [⟨0 + 1, at_, setC noCaps (Int.toNat 0) (pl.getD at_ 0)⟩] = .more l at hs
    cases hs
    intro t' ht
    simp only [List.mem_cons, List.not_mem_nil, or_false] at ht
    subst ht
    refine ⟨Nat.le_refl _, h.ml, fun h0 => by simp at h0, fun _ => rfl, fun _ => rfl, fun h0 => by simp at h0, fun s hs => .inl ?_, fun _ _ s hs h0 => ?_, fun q hq hn => ?_⟩
    · show setC noCaps 0 _ s = -1; unfold setC; rw [if_neg (by omega)]; rfl
    · have h9 := hL.hd; change g 1 s at hs; rw [h9] at hs; exact absurd hs h0
    · exact absurd (show setC noCaps (Int.toNat 0) (pl.getD at_ 0) (2 * q + 1) = -1 by unfold setC; rw [if_neg (by simp)]; rfl) hn
  · by_cases hj : j < n
    · rw [hc1 j hj] at hs
      split at hs
      · cases hs; intro t' ht; cases ht
      · rename_i ins hi
        obtain ⟨hnx, h7, h4⟩ := hL.st j ins hi
        rw [show 1 + j = j + 1 by omega] at hnx h4
        have hsucc : ∀ v ∈ nextS (j + 1) ins, ∃ m : Nat, v = (m : Int) ∧ (1 ≤ m ∧ m ≤ n + 1) ∧ ∀ s, g m s → g (j + 1) s ∨ (ins.op = 4 ∧ ins.x = (s : Int)) := fun v hv => by
          obtain ⟨m, e, h1⟩ := hnx v hv
          rcases h1 with ⟨h1, h2, h3⟩ | ⟨h1, _⟩
          · exact ⟨m, e, ⟨h1, by omega⟩, h3⟩
          · exact h1.elim
        have hgo : ins.op ≠ 4 → ∀ v ∈ nextS (j + 1) ins, ∀ a, at_ ≤ a → a ≤ gs.length → IP gs pl g n i ⟨v.toNat, a, c⟩ := fun h4 v hv a h1 h2 => by
          obtain ⟨m, rfl, hm, hg⟩ := hsucc v hv
          exact h.go (by simp) (by simp; omega) (by simpa using hm) ⟨h1, h2⟩ fun s hs => (hg s (by simpa using hs)).elim id fun h => absurd h.1 h4
        rw [if_neg h7] at hs
        by_cases h2 : ins.op = 2
        · rw [if_pos h2] at hs; cases hs
          intro t' ht
          simp only [List.mem_cons, List.not_mem_nil, or_false] at ht
          have hn2 : nextS (j + 1) ins = [ins.x, ins.y] := by unfold nextS; rw [if_pos h2]
          rcases ht with rfl | rfl
          · exact hgo (by omega) _ (by rw [hn2]; simp) _ (Nat.le_refl _) h.ml
          · exact hgo (by omega) _ (by rw [hn2]; simp) _ (Nat.le_refl _) h.ml
        · rw [if_neg h2] at hs
          by_cases h3 : ins.op = 3
          · rw [if_pos h3] at hs; cases hs
            intro t' ht
            simp only [List.mem_cons, List.not_mem_nil, or_false] at ht
            subst ht
            exact hgo (by omega) ins.x (by unfold nextS; rw [if_neg h2, if_pos h3]; simp) _ (Nat.le_refl _) h.ml
          · rw [if_neg h3] at hs
            have hn1 : nextS (j + 1) ins = [((j + 1 + 1 : Nat) : Int)] := by unfold nextS; rw [if_neg h2, if_neg h3, if_neg h7]
            by_cases h4' : ins.op = 4
            · rw [if_pos h4'] at hs; cases hs
              intro t' ht
              simp only [List.mem_cons, List.not_mem_nil, or_false] at ht
              subst ht
              obtain ⟨k, hk, hx⟩ := h4 h4'
              obtain ⟨m, e, hm, hg⟩ := hsucc ((j + 1 + 1 : Nat) : Int) (by rw [hn1]; simp)
              have hm' : m = j + 1 + 1 := by omega
              subst hm'
              refine h.save hpl (by simp) (by simp; omega) ⟨k, hk, ?_⟩ fun s hs => ?_
              · rcases hx with hx | ⟨hx, hgk⟩
                · exact .inl (by omega)
                · exact .inr ⟨by omega, hgk⟩
              · rcases hg s hs with h5 | ⟨_, h5⟩
                · exact .inl h5
                · exact .inr (by omega)
            · rw [if_neg h4'] at hs
              have hgo1 := hgo h4' ((j + 1 + 1 : Nat) : Int) (by rw [hn1]; simp)
              simp only [Int.toNat_natCast] at hgo1
              split at hs
              · cases hs
                intro t' ht
                split at ht
                · simp only [List.mem_cons, List.not_mem_nil, or_false] at ht; subst ht; exact hgo1 _ (Nat.le_refl _) h.ml
                · cases ht
              · split at hs
                · cases hs
                  intro t' ht
                  split at ht
                  · simp only [List.mem_cons, List.not_mem_nil, or_false] at ht; subst ht; exact hgo1 _ (Nat.le_refl _) h.ml
                  · cases ht
                · cases hs
                  intro t' ht
                  split at ht
                  · rename_i hlt
                    simp only [List.mem_cons, List.not_mem_nil, or_false] at ht; subst ht; exact hgo1 _ (by omega) (by omega)
                  · cases ht
    · by_cases hj2 : j = n
      · subst hj2
        rw [hc2] at hs
        change Res.more [⟨_ + 1, at_, setC c (Int.toNat 1) (pl.getD at_ 0)⟩] = .more l at hs
        cases hs
        intro t' ht
        simp only [List.mem_cons, List.not_mem_nil, or_false] at ht
        subst ht
        refine ⟨h.le, h.ml, fun h0 => by simp at h0, fun _ => ?_, fun h0 => (by change j + 1 + 1 ≤ j + 1 at h0; omega), fun _ => rfl, fun s hs => ?_, fun _ h0 => (by change j + 1 + 1 ≤ j + 1 at h0; omega), fun q hq hn => ?_⟩
        · exact h.b0 (by simp)
        · have := h.ins s hs
          show setC c 1 _ s = _ ∨ ∃ a, _ ∧ _ ∧ setC c 1 _ s = _
          unfold setC; rw [if_neg (by omega)]; exact this
        · change setC c 1 _ (2 * q + 1) ≠ -1 at hn
          show setC c 1 _ (2 * q) ≠ -1
          unfold setC at hn ⊢
          rw [if_neg (by omega)] at hn ⊢
          exact h.pr q hq hn
      · rcases hc3 j (by omega) with h9 | h9
        · rw [h9] at hs; cases hs; intro t' ht; cases ht
        · rw [h9] at hs
          simp only [mkI, if_true] at hs
          cases hs
theorem IP.found {tr : Tr} {r : Nat} {gs : List (Nat × Nat)} {pl : List Int} {g : Nat → Nat → Prop} {i : Nat} {t : Tr3} (hL : Lab (fun _ => False) (codeT tr 1) 1 (fun s => s = 0) g)
    (h : IP gs pl g (codeT tr 1).length i t) (hs : stepS (ruleC tr 0 r) gs pl t = .found) : t.c 0 = pl.getD i 0 ∧ t.c 1 = pl.getD t.at_ 0 := by
  have hop : ∃ q, (ruleC tr 0 r)[t.pc]? = some q ∧ q.op = 7 := by
    unfold stepS at hs
    split at hs
    · cases hs
    · rename_i q hq
      refine ⟨q, hq, ?_⟩
      split at hs
      · assumption
      · repeat' split at hs
        all_goals cases hs
  obtain ⟨q, hq, h7⟩ := hop
  have hlen : (ruleC tr 0 r).length = (codeT tr 1).length + 3 := by
    show (mkI 4 0 0 [] :: (codeT tr (0 + 1) ++ _)).length = _
    simp only [List.length_cons, List.length_append, List.length_nil]
  have hlt := lt_get hq
  have hpc : t.pc = (codeT tr 1).length + 2 := by
    rcases Nat.eq_zero_or_pos t.pc with h0 | h0
    · rw [h0] at hq; cases hq; cases h7
    · obtain ⟨j, hj⟩ : ∃ j, t.pc = j + 1 := ⟨t.pc - 1, by omega⟩
      rw [hj] at hq hlt
      by_cases h1 : j < (codeT tr 1).length
      · have hq2 : (codeT tr 1)[j]? = some q := by
          rw [← hq]
          show _ = (mkI 4 0 0 [] :: (codeT tr (0 + 1) ++ _))[j + 1]?
          rw [List.getElem?_cons_succ, List.getElem?_append_left h1]
        exact absurd h7 (hL.st j q hq2).2.1
      · by_cases h2 : j = (codeT tr 1).length
        · have hq2 : (ruleC tr 0 r)[j + 1]? = some (mkI 4 1 0 []) := by
            show (mkI 4 0 0 [] :: (codeT tr (0 + 1) ++ _))[j + 1]? = _
            rw [List.getElem?_cons_succ, List.getElem?_append_right (by rw [h2]; exact Nat.le_refl _), show j - (codeT tr (0 + 1)).length = 0 by rw [h2]; exact Nat.sub_self _]; rfl
          rw [hq2] at hq; cases hq; cases h7
        · omega
  exact ⟨h.b0 (by omega), h.b2 hpc⟩
def shI (n : Nat) (i : PIns) : PIns := if i.op = 2 then ⟨2, i.x + n, i.y + n, i.rd, i.rs⟩ else if i.op = 3 then ⟨3, i.x + n, i.y, i.rd, i.rs⟩ else i
theorem shI_mk (n : Nat) {op : Int} (x y : Int) (rs : List Rg) (h2 : op ≠ 2) (h3 : op ≠ 3) : shI n (mkI op x y rs) = mkI op x y rs := by
  unfold shI mkI
  rw [if_neg h2, if_neg h3]
theorem shI_sp (n s o : Nat) (lz : Bool) : shI n (spI s o lz) = spI (s + n) (o + n) lz := by
  cases lz
  · show (⟨2, ((s + 1 : Nat) : Int) + n, (o : Int) + n, _, _⟩ : PIns) = mkI 2 ((s + n + 1 : Nat) : Int) ((o + n : Nat) : Int) []
    unfold mkI
    congr 1; omega
  · show (⟨2, (o : Int) + n, ((s + 1 : Nat) : Int) + n, _, _⟩ : PIns) = mkI 2 ((o + n : Nat) : Int) ((s + n + 1 : Nat) : Int) []
    unfold mkI
    congr 1; omega
theorem shI_jp (n e : Nat) : shI n (jpI e) = jpI (e + n) := by
  show (⟨3, (e : Int) + n, 0, _, _⟩ : PIns) = mkI 3 ((e + n : Nat) : Int) 0 []
  unfold mkI
  congr 1
theorem repC_sh {c : Nat → List PIns} {z n : Nat} (hc : ∀ b, c (b + n) = (c b).map (shI n)) : ∀ k b, repC c z k (b + n) = (repC c z k b).map (shI n)
  | 0, b => rfl
  | k + 1, b => by
    have h := repC_sh hc (z := z) k (b + z)
    rw [Nat.add_right_comm] at h
    rw [repC, repC, List.map_append, hc, h]
theorem optC_sh {sp sp' : Nat → PIns} {c : Nat → List PIns} {z n : Nat} (hs : ∀ s, sp' (s + n) = shI n (sp s)) (hc : ∀ b, c (b + n) = (c b).map (shI n)) : ∀ k b, optC sp' c z k (b + n) = (optC sp c z k b).map (shI n)
  | 0, b => rfl
  | k + 1, b => by
    have h := optC_sh hs hc (z := z) k (b + 1 + z)
    have e1 : b + 1 + z + n = b + n + 1 + z := by omega
    have e2 : b + n + 1 = b + 1 + n := by omega
    rw [e1] at h
    rw [optC, optC, List.map_cons, List.map_append, hs, h, e2, hc]
theorem rptC_sh {nd : Nod} {c : Nat → List PIns} {z n b : Nat} (hc : ∀ b, c (b + n) = (c b).map (shI n)) : rptC nd c z (b + n) = (rptC nd c z b).map (shI n) := by
  unfold rptC
  split
  · rw [List.map_append, repC_sh hc, List.map_cons, List.map_append, shI_sp, List.map_cons, List.map_nil, shI_jp]
    have e1 : b + n + nd.mn.toNat * z = b + nd.mn.toNat * z + n := by omega
    have e2 : b + nd.mn.toNat * z + n + 1 = b + nd.mn.toNat * z + 1 + n := by omega
    have e3 : b + nd.mn.toNat * z + n + z + 2 = b + nd.mn.toNat * z + z + 2 + n := by omega
    rw [e1, e2, e3, hc]
  · rw [List.map_append, repC_sh hc]
    have e1 : b + n + nd.mn.toNat * z = b + nd.mn.toNat * z + n := by omega
    rw [e1]
    congr 1
    refine optC_sh (fun s => ?_) hc _ _
    rw [shI_sp]
    congr 1
    omega
mutual
theorem codeT_sh (n : Nat) : ∀ (t : Tr) (b : Nat), codeT t (b + n) = (codeT t b).map (shI n)
  | .mk nd ks, b => by
    have hc := fun b => catT_sh n ks b
    have ha := fun e b => altT_sh n e ks b
    simp only [codeT]
    split
    · rw [List.map_cons, List.map_nil, shI_mk _ _ _ _ (by decide) (by decide)]
    split
    · rw [List.map_cons, List.map_nil, shI_mk _ _ _ _ (by decide) (by decide)]
    split
    · rw [List.map_cons, List.map_nil, shI_mk _ _ _ _ (by decide) (by decide)]
    split
    · exact hc b
    split
    · rw [Nat.add_right_comm]; exact ha _ b
    split
    · exact rptC_sh hc
    split
    · rw [List.map_cons, List.map_append, List.map_cons, List.map_nil, shI_mk _ _ _ _ (by decide) (by decide), shI_mk _ _ _ _ (by decide) (by decide), Nat.add_right_comm, hc]
    · rfl
theorem catT_sh (n : Nat) : ∀ (ts : Trs) (b : Nat), catT ts (b + n) = (catT ts b).map (shI n)
  | .nil, b => by simp only [catT, List.map_nil]
  | .cons t ts, b => by
    have h := catT_sh n ts (b + t.sz)
    rw [Nat.add_right_comm] at h
    simp only [catT, List.map_append]
    rw [codeT_sh n t b, h]
theorem altT_sh (n : Nat) : ∀ (e : Nat) (ts : Trs) (b : Nat), altT (jpI (e + n)) ts (b + n) = (altT (jpI e) ts b).map (shI n)
  | e, .nil, b => by simp only [altT, List.map_nil]
  | e, .cons t ts, b => by
    have h := altT_sh n e ts (b + t.sz + 2)
    have h1 := codeT_sh n t (b + 1)
    have e1 : b + t.sz + 2 + n = b + n + t.sz + 2 := by omega
    have e2 : b + 1 + n = b + n + 1 := by omega
    have e3 : b + 1 + t.sz + 1 + n = b + n + 1 + t.sz + 1 := by omega
    rw [e1] at h
    rw [e2] at h1
    simp only [altT]
    split
    · exact codeT_sh n t b
    · rw [List.map_cons, List.map_append, List.map_cons, shI_sp, shI_jp, h1, h, e3]
end
def InI (lo hi : Nat) (i : PIns) : Prop := i.op ≠ 7 ∧ (i.op = 2 → ((lo : Int) ≤ i.x ∧ i.x ≤ hi) ∧ (lo : Int) ≤ i.y ∧ i.y ≤ hi) ∧ (i.op = 3 → (lo : Int) ≤ i.x ∧ i.x ≤ hi)
theorem InI.mono {lo hi lo' hi' : Nat} {i : PIns} (h : InI lo hi i) (h1 : lo' ≤ lo) (h2 : hi ≤ hi') : InI lo' hi' i :=
  ⟨h.1, fun e => by have := h.2.1 e; omega, fun e => by have := h.2.2 e; omega⟩
theorem InI.mk {lo hi : Nat} {op : Int} (x y : Int) (rs : List Rg) (h2 : op ≠ 2) (h3 : op ≠ 3) (h7 : op ≠ 7) : InI lo hi (mkI op x y rs) := ⟨h7, fun h => absurd h h2, fun h => absurd h h3⟩
theorem InI.sp {lo hi s o : Nat} {lz : Bool} (h1 : lo ≤ s + 1 ∧ s + 1 ≤ hi) (h2 : lo ≤ o ∧ o ≤ hi) : InI lo hi (spI s o lz) := by
  cases lz
  · exact ⟨by show (2 : Int) ≠ 7; decide, fun _ => by show ((lo : Int) ≤ ((s + 1 : Nat) : Int) ∧ ((s + 1 : Nat) : Int) ≤ hi) ∧ (lo : Int) ≤ (o : Int) ∧ (o : Int) ≤ hi; omega, fun h => absurd h (by show ¬ (2 : Int) = 3; decide)⟩
  · exact ⟨by show (2 : Int) ≠ 7; decide, fun _ => by show ((lo : Int) ≤ (o : Int) ∧ (o : Int) ≤ hi) ∧ (lo : Int) ≤ ((s + 1 : Nat) : Int) ∧ ((s + 1 : Nat) : Int) ≤ hi; omega, fun h => absurd h (by show ¬ (2 : Int) = 3; decide)⟩
theorem InI.jp {lo hi e : Nat} (h1 : lo ≤ e ∧ e ≤ hi) : InI lo hi (jpI e) :=
  ⟨by show (3 : Int) ≠ 7; decide, fun h => absurd h (by show ¬ (3 : Int) = 2; decide), fun _ => by show (lo : Int) ≤ (e : Int) ∧ (e : Int) ≤ hi; omega⟩
theorem repC_in {c : Nat → List PIns} {z : Nat} (hc : ∀ b, ∀ i ∈ c b, InI b (b + z) i) : ∀ k b, ∀ i ∈ repC c z k b, InI b (b + k * z) i
  | 0, b, i, hi => by cases hi
  | k + 1, b, i, hi => by
    simp only [repC] at hi
    rw [Nat.succ_mul]
    rcases List.mem_append.1 hi with hi | hi
    · exact (hc b i hi).mono (Nat.le_refl _) (by omega)
    · exact (repC_in hc k _ i hi).mono (by omega) (by omega)
theorem optC_in {sp : Nat → PIns} {c : Nat → List PIns} {z lo hi : Nat} (hs : ∀ s, lo ≤ s → s + 1 ≤ hi → InI lo hi (sp s)) (hc : ∀ b, ∀ i ∈ c b, InI b (b + z) i) : ∀ k b, lo ≤ b → b + k * (z + 1) ≤ hi → ∀ i ∈ optC sp c z k b, InI lo hi i
  | 0, b, _, _, i, hi' => by cases hi'
  | k + 1, b, h1, h2, i, hi' => by
    simp only [optC] at hi'
    rw [Nat.succ_mul] at h2
    rcases List.mem_cons.1 hi' with rfl | hi'
    · exact hs b h1 (by omega)
    · rcases List.mem_append.1 hi' with hi' | hi'
      · exact (hc _ i hi').mono (by omega) (by omega)
      · exact optC_in hs hc k _ (by omega) (by omega) i hi'
mutual
theorem codeT_in : ∀ (t : Tr) (b : Nat), t.ok → ∀ i ∈ codeT t b, InI b (b + t.sz) i
  | .mk n ks, b, hok, i, hi => by
    simp only [Tr.ok] at hok
    have hc := fun b => catT_in ks b hok.2
    obtain ⟨_, hq⟩ := hok.1
    simp only [codeT] at hi
    simp only [Tr.sz]
    by_cases q2 : n.op = 2
    · rw [if_pos q2] at hi
      simp only [List.mem_cons, List.not_mem_nil, or_false] at hi; subst hi; exact InI.mk _ _ _ (by decide) (by decide) (by decide)
    rw [if_neg q2] at hi
    by_cases q7 : n.op = 7
    · rw [if_pos q7] at hi
      simp only [List.mem_cons, List.not_mem_nil, or_false] at hi; subst hi; exact InI.mk _ _ _ (by decide) (by decide) (by decide)
    rw [if_neg q7] at hi
    by_cases q8 : n.op = 8
    · rw [if_pos q8] at hi
      simp only [List.mem_cons, List.not_mem_nil, or_false] at hi; subst hi; exact InI.mk _ _ _ (by decide) (by decide) (by decide)
    rw [if_neg q8] at hi
    have hz : ∀ s k, nodSz n s k = if n.op = 4 then s + 2 * (k - 1) else if n.op = 6 then s + 2 else if n.op = 5 then (if n.mx = -1 then n.mn.toNat * s + s + 2 else n.mn.toNat * s + (n.mx.toNat - n.mn.toNat) * (s + 1)) else s := by
      intro s k; unfold nodSz; rw [if_neg (by omega)]
    by_cases q3 : n.op = 3
    · rw [if_pos q3] at hi
      rw [hz, if_neg (by omega), if_neg (by omega), if_neg (by omega)]
      exact hc b i hi
    rw [if_neg q3] at hi
    by_cases q4 : n.op = 4
    · rw [if_pos q4] at hi
      have hz4 : nodSz n ks.sz ks.len = ks.sz + 2 * (ks.len - 1) := by rw [hz, if_pos q4]
      rw [hz4] at hi ⊢
      exact altT_in ks b (b + (ks.sz + 2 * (ks.len - 1))) hok.2 (Nat.le_refl _) i hi
    rw [if_neg q4] at hi
    by_cases q5 : n.op = 5
    · rw [if_pos q5] at hi
      rw [hz, if_neg q4, if_neg (by omega), if_pos q5]
      unfold rptC at hi
      by_cases qm : n.mx = -1
      · rw [if_pos qm] at hi ⊢
        rcases List.mem_append.1 hi with hi | hi
        · exact (repC_in hc _ _ i hi).mono (Nat.le_refl _) (by omega)
        · rcases List.mem_cons.1 hi with rfl | hi
          · exact InI.sp (by omega) (by omega)
          · rcases List.mem_append.1 hi with hi | hi
            · exact (hc _ i hi).mono (by omega) (by omega)
            · simp only [List.mem_cons, List.not_mem_nil, or_false] at hi; subst hi; exact InI.jp (by omega)
      · rw [if_neg qm] at hi ⊢
        rcases List.mem_append.1 hi with hi | hi
        · exact (repC_in hc _ _ i hi).mono (Nat.le_refl _) (by omega)
        · exact optC_in (fun s h1 h2 => InI.sp (by omega) (by omega)) hc _ _ (by omega) (by omega) i hi
    rw [if_neg q5] at hi
    by_cases q6 : n.op = 6
    · rw [if_pos q6] at hi
      rw [hz, if_neg q4, if_pos q6]
      rcases List.mem_cons.1 hi with rfl | hi
      · exact InI.mk _ _ _ (by decide) (by decide) (by decide)
      · rcases List.mem_append.1 hi with hi | hi
        · exact (hc _ i hi).mono (by omega) (by omega)
        · simp only [List.mem_cons, List.not_mem_nil, or_false] at hi; subst hi; exact InI.mk _ _ _ (by decide) (by decide) (by decide)
    · rw [if_neg q6] at hi; cases hi
theorem catT_in : ∀ (ts : Trs) (b : Nat), ts.ok → ∀ i ∈ catT ts b, InI b (b + ts.sz) i
  | .nil, b, _, i, hi => by simp [catT] at hi
  | .cons t ts, b, hok, i, hi => by
    simp only [Trs.ok] at hok
    simp only [catT] at hi
    simp only [Trs.sz]
    rcases List.mem_append.1 hi with hi | hi
    · exact (codeT_in t b hok.1 i hi).mono (Nat.le_refl _) (by omega)
    · exact (catT_in ts _ hok.2 i hi).mono (by omega) (by omega)
theorem altT_in : ∀ (ts : Trs) (b e : Nat), ts.ok → b + (ts.sz + 2 * (ts.len - 1)) ≤ e → ∀ i ∈ altT (jpI e) ts b, InI b e i
  | .nil, b, e, _, _, i, hi => by simp [altT] at hi
  | .cons t ts, b, e, hok, he, i, hi => by
    simp only [Trs.ok] at hok
    simp only [altT] at hi
    simp only [Trs.sz, Trs.len] at he
    by_cases q : ts.len = 0
    · rw [if_pos q] at hi
      exact (codeT_in t b hok.1 i hi).mono (Nat.le_refl _) (by omega)
    · rw [if_neg q] at hi
      rcases List.mem_cons.1 hi with rfl | hi
      · exact InI.sp (by omega) (by omega)
      · rcases List.mem_append.1 hi with hi | hi
        · exact (codeT_in t _ hok.1 i hi).mono (by omega) (by omega)
        · rcases List.mem_cons.1 hi with rfl | hi
          · exact InI.jp (by omega)
          · exact (altT_in ts _ e hok.2 (by omega) i hi).mono (by omega) (by omega)
end
def wantI (n : Nat) (i : PIns) : PIns := if i.op = 2 then ⟨2, i.x + n, i.y + n, i.rd, i.rs⟩ else if i.op = 3 then ⟨3, i.x + n, i.y, i.rd, i.rs⟩ else if i.op = 7 then ⟨7, 1, i.y, i.rd, i.rs⟩ else i
theorem want_sh {lo hi n : Nat} {i : PIns} (h : InI lo hi i) : wantI n i = shI n i := by
  unfold wantI shI
  rw [if_neg h.1]
theorem rule_want {t : Tr} (h : t.ok) (n : Nat) : ruleC t n 1 = (ruleC t 0 0).map (wantI n) := by
  unfold ruleC
  have h1 := codeT_sh n t 1
  rw [Nat.add_comm 1 n] at h1
  rw [h1, List.map_cons, List.map_append]
  congr 1
  congr 1
  exact (List.map_congr_left fun i hi => want_sh (codeT_in t 1 h i hi)).symm
theorem rule_in {t : Tr} (h : t.ok) : ∀ i ∈ ruleC t 0 0, i.op = 2 ∨ i.op = 3 → (0 ≤ i.x ∧ i.x ≤ t.sz + 1) ∧ (i.op = 2 → 0 ≤ i.y ∧ i.y ≤ t.sz + 1) := by
  intro i hi ho
  unfold ruleC at hi
  rcases List.mem_cons.1 hi with rfl | hi
  · exact absurd ho (by show ¬ ((4 : Int) = 2 ∨ (4 : Int) = 3); decide)
  · rcases List.mem_append.1 hi with hi | hi
    · obtain ⟨_, h2, h3⟩ := codeT_in t _ h i hi
      rcases ho with ho | ho
      · have := h2 ho; omega
      · have := h3 ho; exact ⟨by omega, fun h => by omega⟩
    · simp only [List.mem_cons, List.not_mem_nil, or_false] at hi
      rcases hi with rfl | rfl
      · exact absurd ho (by show ¬ ((4 : Int) = 2 ∨ (4 : Int) = 3); decide)
      · exact absurd ho (by show ¬ ((7 : Int) = 2 ∨ (7 : Int) = 3); decide)
theorem compS_nil' (r : Nat) (c : List PIns) (s : List Int) : compS [] r c s = ⟨c, s, 0, 0⟩ := by simp only [compS]
theorem compile_one (a : List Nod) : compileS [a] = if rightN a = false then ⟨[], [], 1, 0⟩ else if 400 < min (treeN a).sz 401 + 3 then ⟨[], [], 12, 0⟩ else ⟨ruleC (treeN a) 0 0, [0], 0, 0⟩ := by
  unfold compileS
  rw [if_neg (by simp), compS]
  simp only [compS_nil', List.length_nil, List.nil_append, Nat.zero_add]
  rfl
theorem apart_cases (a b : List Nod) :
    (((compileS [a]).e ≠ 0 ∨ (compileS [b]).e ≠ 0) ∧ (compileS [a, b]).e ≠ 0 ∧ (compileS [a, b]).code = [] ∧ (((compileS [a, b]).w == 0) == ((compileS [a]).e != 0)) = true) ∨
    ((compileS [a]).e = 0 ∧ (compileS [b]).e = 0 ∧ 400 < (compileS [a]).code.length + (compileS [b]).code.length ∧ (compileS [a, b]).e = 12 ∧ (compileS [a, b]).w = 1) ∨
    ((compileS [a]).e = 0 ∧ (compileS [b]).e = 0 ∧ (compileS [a]).code.length + (compileS [b]).code.length ≤ 400 ∧ (compileS [a, b]).e = 0 ∧ (compileS [a, b]).starts = [0, ((compileS [a]).code.length : Int)] ∧ (compileS [a, b]).code = (compileS [a]).code ++ (compileS [b]).code.map (wantI (compileS [a]).code.length) ∧ ∀ i ∈ (compileS [b]).code, i.op = 2 ∨ i.op = 3 → (0 ≤ i.x ∧ i.x ≤ 1000) ∧ (i.op = 2 → 0 ≤ i.y ∧ i.y ≤ 1000)) := by
  have hB : compileS [a, b] = if rightN a = false then ⟨[], [], 1, 0⟩ else if 400 < min (treeN a).sz 401 + 3 then ⟨[], [], 12, 0⟩ else if rightN b = false then ⟨[], [], 1, 1⟩ else if 400 < (ruleC (treeN a) 0 0).length + min (treeN b).sz 401 + 3 then ⟨[], [], 12, 1⟩ else ⟨ruleC (treeN a) 0 0 ++ ruleC (treeN b) (ruleC (treeN a) 0 0).length 1, [0, ((ruleC (treeN a) 0 0).length : Int)], 0, 0⟩ := by
    unfold compileS
    rw [if_neg (by simp), compS, compS]
    simp only [compS_nil', List.length_nil, List.nil_append, Nat.zero_add]
    rfl
  rw [hB, compile_one a, compile_one b]
  by_cases ha : rightN a = false
  · rw [if_pos ha, if_pos ha]
    exact .inl ⟨.inl (by decide), by decide, rfl, by decide⟩
  rw [if_neg ha, if_neg ha]
  have hta := (tree_is (by rw [← Bool.not_eq_false]; exact ha)).1
  by_cases hba : 400 < min (treeN a).sz 401 + 3
  · rw [if_pos hba, if_pos hba]
    exact .inl ⟨.inl (by decide), by decide, rfl, by decide⟩
  rw [if_neg hba, if_neg hba]
  have hla := ruleC_len (b := 0) (r := 0) hta
  by_cases hb : rightN b = false
  · rw [if_pos hb, if_pos hb]
    exact .inl ⟨.inr (by decide), by decide, rfl, rfl⟩
  rw [if_neg hb, if_neg hb]
  have htb := (tree_is (by rw [← Bool.not_eq_false]; exact hb)).1
  have hlb := ruleC_len (b := 0) (r := 0) htb
  by_cases hbb : 400 < min (treeN b).sz 401 + 3
  · rw [if_pos hbb, if_pos (by omega)]
    exact .inl ⟨.inr (by decide), by decide, rfl, rfl⟩
  rw [if_neg hbb]
  by_cases hall : 400 < (ruleC (treeN a) 0 0).length + min (treeN b).sz 401 + 3
  · rw [if_pos hall]
    exact .inr (.inl ⟨rfl, rfl, by simp only; omega, rfl, rfl⟩)
  · rw [if_neg hall]
    refine .inr (.inr ⟨rfl, rfl, by simp only; omega, rfl, rfl, ?_, fun i hi ho => ?_⟩)
    · simp only
      rw [rule_want htb]
    · have := rule_in htb i hi ho
      omega
theorem compile_one_ok {a : List Nod} (h : (compileS [a]).e = 0) : rightN a = true ∧ (compileS [a]).code = ruleC (treeN a) 0 0 ∧ (compileS [a]).starts = [0] := by
  rw [compile_one] at h ⊢
  split at h
  · cases h
  · rename_i h1
    split at h
    · cases h
    · rename_i h2
      rw [if_neg h1, if_neg h2]
      exact ⟨by cases hr : rightN a with | true => rfl | false => exact absurd hr h1, rfl, rfl⟩
def ShI (n : Nat) (i i' : PIns) : Prop := i'.op = i.op ∧ i'.rs = i.rs ∧ (i.op = 2 → i'.x.toNat = i.x.toNat + n ∧ i'.y.toNat = i.y.toNat + n) ∧ (i.op = 3 → i'.x.toNat = i.x.toNat + n) ∧ (i.op = 4 → i'.x = i.x)
def ShC (n : Nat) (C C' : List PIns) : Prop := ∀ pc i, C[pc]? = some i → ∃ i', C'[pc + n]? = some i' ∧ ShI n i i'
def shT (n : Nat) (t : Tr3) : Tr3 := ⟨t.pc + n, t.at_, t.c⟩
def shR (n : Nat) : Res → Res
  | .found => .found
  | .more l => .more (l.map (shT n))
theorem step_sh {n : Nat} {C C' : List PIns} (h : ShC n C C') {gs : List (Nat × Nat)} {pl : List Int} {t : Tr3} (ht : t.pc < C.length) : stepS C' gs pl (shT n t) = shR n (stepS C gs pl t) := by
  obtain ⟨i, hi⟩ : ∃ i, C[t.pc]? = some i := ⟨C[t.pc]'ht, List.getElem?_eq_getElem _⟩
  obtain ⟨i', hi', e1, e2, e3, e4, e5⟩ := h _ _ hi
  unfold stepS
  show (match C'[t.pc + n]? with | none => _ | some i => _) = _
  rw [hi, hi']
  simp only [e1, e2]
  have hn : t.pc + n + 1 = t.pc + 1 + n := by omega
  by_cases h7 : i.op = 7
  · rw [if_pos h7, if_pos h7]; rfl
  rw [if_neg h7, if_neg h7]
  by_cases h2 : i.op = 2
  · rw [if_pos h2, if_pos h2, (e3 h2).1, (e3 h2).2]; rfl
  rw [if_neg h2, if_neg h2]
  by_cases h3 : i.op = 3
  · rw [if_pos h3, if_pos h3, e4 h3]; rfl
  rw [if_neg h3, if_neg h3]
  by_cases h4 : i.op = 4
  · rw [if_pos h4, if_pos h4, e5 h4]
    simp only [shT, shR, List.map_cons, List.map_nil, hn]
  rw [if_neg h4, if_neg h4]
  by_cases h5 : i.op = 5
  · rw [if_pos h5, if_pos h5]
    simp only [shT, shR, hn]
    split <;> rfl
  rw [if_neg h5, if_neg h5]
  by_cases h6 : i.op = 6
  · rw [if_pos h6, if_pos h6]
    simp only [shT, shR, hn]
    split <;> rfl
  rw [if_neg h6, if_neg h6]
  simp only [shT, shR, hn]
  split <;> rfl
theorem run_sh {n : Nat} {C C' : List PIns} {gs : List (Nat × Nat)} {pl : List Int} (h : ShC n C C') (hK : ∀ t l, t.pc < C.length ∧ t.at_ ≤ gs.length → stepS C gs pl t = .more l → ∀ u ∈ l, u.pc < C.length ∧ u.at_ ≤ gs.length) {s s1 : Sn} {stk : List Tr3} {r : Option Cps} (hr : Run (stepS C gs pl) s stk r s1) :
    (∀ t ∈ stk, t.pc < C.length ∧ t.at_ ≤ gs.length) → ∀ z : Sn, (∀ a b, a < C.length → z (a + n) b = s a b) → ∃ z1, Run (stepS C' gs pl) z (stk.map (shT n)) r z1 := by
  have hup : ∀ (z s : Sn) (t : Tr3), (∀ a b, a < C.length → z (a + n) b = s a b) → ∀ a b, a < C.length → updS z (shT n t) (a + n) b = updS s t a b := by
    intro z s t hz a b ha
    unfold updS shT
    simp only
    by_cases hc : a = t.pc ∧ b = t.at_
    · rw [if_pos hc, if_pos ⟨by omega, hc.2⟩]
    · rw [if_neg hc, if_neg (fun h => hc ⟨by omega, h.2⟩)]
      exact hz a b ha
  induction hr with
  | nil => intro _ z _; exact ⟨z, .nil⟩
  | old h1 _ ih =>
    intro hs z hz
    obtain ⟨z1, h2⟩ := ih (fun t ht => hs t (List.mem_cons_of_mem _ ht)) z hz
    exact ⟨z1, .old ((hz _ _ (hs _ (List.mem_cons_self ..)).1).trans h1) h2⟩
  | found h1 h2 =>
    intro hs z hz
    have ht := hs _ (List.mem_cons_self ..)
    exact ⟨_, .found (t := shT n _) ((hz _ _ ht.1).trans h1) (by rw [step_sh h ht.1, h2]; rfl)⟩
  | more h1 h2 _ ih =>
    intro hs z hz
    have ht := hs _ (List.mem_cons_self ..)
    obtain ⟨z1, h3⟩ := ih (fun t hm => by
      rcases List.mem_append.1 hm with hm | hm
      · exact hK _ _ ht h2 t hm
      · exact hs t (List.mem_cons_of_mem _ hm)) (updS z (shT n _)) (hup z _ _ hz)
    rw [List.map_append] at h3
    exact ⟨z1, .more ((hz _ _ ht.1).trans h1) (by rw [step_sh h ht.1, h2]; rfl) h3⟩
theorem find_run {p : Pg} (hR : RightQ p) {r : Nat} {start : Int} (hs : p.starts[r]? = some start) (b : List UInt8) : ∃ s', Run (stepS p.code (allS b) (plS 0 (allS b))) (fun _ _ => false) ((List.range' 0 ((allS b).length + 1)).map fun j => ⟨start.toNat, j, noCaps⟩) (progFind p (r : Nat) b) s' := by
  have hst := hR.st start (List.mem_of_getElem? hs)
  have hlt := lt_get hs
  unfold progFind
  rw [if_pos ⟨dec_yes hR, by omega, by omega⟩]
  have hgd : (p.starts.getD ((r : Nat) : Int).toNat 0).toNat = start.toNat := by
    rw [Int.toNat_natCast, List.getD_eq_getElem?_getD, hs]; rfl
  rw [hgd]
  generalize allS b = gs at *
  exact findP_run (idx := idxP p.code.length) (ok := fun a b => a < p.code.length ∧ b ≤ gs.length) (stp := stepS p.code gs (plS 0 gs)) (fuel := 3 * ((gs.length + 1) * p.code.length) + 1) (start := start.toNat) (by
      rintro a b a' b' ⟨q1, q2⟩ ⟨q3, q4⟩ he
      obtain ⟨r1, r2⟩ := mul_inj q1 q3 he
      exact ⟨r2, r1⟩) (fun t l ht hl => ⟨step_len _ _ _ _ _ hl, fun u hu => step_ok (p := p) hR ht l hl u hu⟩) (gs.length + 1) 0 (List.replicate ((gs.length + 1) * p.code.length) false) (fun _ _ => false) (by
      rintro a b ⟨q1, q2⟩
      unfold idxP
      rw [List.getElem?_replicate, if_pos (mul_lt (by omega) q1)]) (fun j hj => ⟨by omega, by omega⟩) (by rw [List.length_replicate]; exact Nat.le_refl _)
theorem find_shift {p q : Pg} (hR : RightQ p) (hQ : RightQ q) {r r' : Nat} {start start' : Int} (hs : p.starts[r]? = some start) (hs' : q.starts[r']? = some start') {n : Nat} (hC : ShC n p.code q.code) (hst : start'.toNat = start.toNat + n) (b : List UInt8) : progFind q (r' : Nat) b = progFind p (r : Nat) b := by
  obtain ⟨s1, h1⟩ := find_run hR hs b
  obtain ⟨s2, h2⟩ := find_run hQ hs' b
  have hin := hR.st start (List.mem_of_getElem? hs)
  obtain ⟨z1, h3⟩ := run_sh hC (fun t l ht hl u hu => step_ok (p := p) hR ht l hl u hu) h1 (fun t ht => by
    obtain ⟨j, hj, rfl⟩ := List.mem_map.1 ht
    have := List.mem_range'_1.1 hj
    exact ⟨by show start.toNat < _; omega, by show j ≤ _; omega⟩) (fun _ _ => false) (fun _ _ _ => rfl)
  rw [List.map_map] at h3
  have he : (List.range' 0 ((allS b).length + 1)).map (shT n ∘ fun j => (⟨start.toNat, j, noCaps⟩ : Tr3)) = (List.range' 0 ((allS b).length + 1)).map fun j => (⟨start'.toNat, j, noCaps⟩ : Tr3) := by
    refine List.map_congr_left fun j _ => ?_
    show (⟨start.toNat + n, j, noCaps⟩ : Tr3) = _
    rw [hst]
  rw [he] at h3
  exact (h2.one h3).1
theorem find_apart {a b : List Nod} {p q w : Pg} (hp : RightQ p) (hq : RightQ q) (hw : RightQ w) (h1 : (compileS [a]).e = 0) (h2 : (compileS [b]).e = 0) (h3 : (compileS [a, b]).e = 0) (p1 : p.code = (compileS [a]).code) (p2 : p.starts = (compileS [a]).starts) (q1 : q.code = (compileS [b]).code) (q2 : q.starts = (compileS [b]).starts) (w1 : w.code = (compileS [a, b]).code) (w2 : w.starts = (compileS [a, b]).starts) (t : List UInt8) :
    progFind w 0 t = progFind p 0 t ∧ progFind w 1 t = progFind q 0 t := by
  rcases apart_cases a b with ⟨_, hc, _⟩ | ⟨_, _, _, hc, _⟩ | ⟨_, _, _, _, c1, c2, c3⟩
  · exact absurd h3 hc
  · rw [hc] at h3; cases h3
  rw [c1] at w2
  rw [c2, ← p1, ← q1] at w1
  rw [← p1] at w2
  have sp := (compile_one_ok h1).2.2
  have sq := (compile_one_ok h2).2.2
  rw [sp] at p2
  rw [sq] at q2
  rw [← q1] at c3
  constructor
  · refine find_shift (r := 0) (r' := 0) (n := 0) (start := 0) (start' := 0) hp hw (by rw [p2]; rfl) (by rw [w2]; rfl) (fun pc i hi => ⟨i, ?_, rfl, rfl, fun _ => ⟨rfl, rfl⟩, fun _ => rfl, fun _ => rfl⟩) rfl t
    rw [w1, Nat.add_zero, List.getElem?_append_left (lt_get hi)]; exact hi
  · refine find_shift (r := 0) (r' := 1) (n := p.code.length) (start := 0) (start' := (p.code.length : Int)) hq hw (by rw [q2]; rfl) (by rw [w2]; rfl) (fun pc i hi => ⟨wantI p.code.length i, ?_, ?_⟩) (by simp) t
    · rw [w1, List.getElem?_append_right (by omega), Nat.add_sub_cancel, List.getElem?_map, hi]; rfl
    · have hx := c3 i (List.mem_of_getElem? hi)
      unfold wantI ShI
      by_cases h2 : i.op = 2
      · have := hx (.inl h2)
        rw [if_pos h2]
        refine ⟨h2.symm, rfl, fun _ => ⟨?_, ?_⟩, fun h => ?_, fun h => ?_⟩ <;> simp only <;> omega
      rw [if_neg h2]
      by_cases h3 : i.op = 3
      · have := hx (.inr h3)
        rw [if_pos h3]
        refine ⟨h3.symm, rfl, fun h => ?_, fun _ => ?_, fun h => ?_⟩ <;> simp only <;> omega
      rw [if_neg h3]
      by_cases h7 : i.op = 7
      · rw [if_pos h7]
        refine ⟨h7.symm, rfl, fun h => ?_, fun h => ?_, fun h => ?_⟩ <;> simp only <;> omega
      rw [if_neg h7]
      exact ⟨rfl, rfl, fun h => absurd h h2, fun h => absurd h h3, fun _ => rfl⟩
def ixF_Tb (fr : Go.V.Fr) (k : Nat) : Go.V.D := Go.V.nth .junk fr.loc k
inductive PR (α : Type) where
 | ok (a : α) (i : Nat)
 | er (e : Int) (w : Nat)
def notL : List Rg → Int → List Rg
 | [], n => [(n, 1114111)]
 | q :: m, n => (n, wrapD .i32 (q.1 - 1)) :: notL m (wrapD .i32 (q.2 + 1))
noncomputable def notR (l : List Rg) : List Rg := makeR (notL (makeR l) 0)
theorem notL_len : ∀ (l : List Rg) (n : Int), (notL l n).length = l.length + 1
 | [], _ => rfl
 | q :: m, n => by simp only [notL, List.length_cons, notL_len m]
theorem notX_ev {s0 : St} {x : D} {l : List Rg} (hx : V.Rows s0 2 x (l.map rangeC)) (hl : l.length ≤ 131072) : Ev pv 132 [x] s0 (rangesV (notR l)) s0 ∧ (notR l).length ≤ 4 * l.length + 2 := by
 suffices hg : ∃ d, Ev pv 132 [x] s0 d s0 ∧ d = rangesV (notR l) ∧ (notR l).length ≤ 4 * l.length + 2 by
  obtain ⟨d, h1, rfl, h2⟩ := hg;exact ⟨h1, h2⟩
 have hN : notR l = makeR (notL (makeR l) 0) := rfl;refine Ev.mkR rfl fi132 rfl rfl rfl ?_;dsimp only [u3, u4, List.length, Nat.reduceSub, Nat.reduceAdd, w1, w2];obtain ⟨hSb, hF, hH⟩ := ri s0;generalize enterSt .ro s0 = S at *;have hx := Arg.of hx hSb;refine qq ?_;refine qj fun K hK => ?_;refine qm ?_;refine qe hK ?_;refine qq ?_;refine qj fun K hK => ?_;refine qm ?_;refine qe hK ?_;refine qq ?_;refine qj fun K hK => ?_;refine qm ?_;refine qe hK ?_;obtain ⟨hev, hml, _⟩ := mk_ev (hx.rows hH) (by omega);have hla := (ranges_sl (makeR l)).arg s0.bs.length S;generalize makeR l = m at *;refine qq ?_;refine qq ?_;refine qj fun K hK => ?_;refine qm ?_;refine qv (hev) ?_;refine qn ?_;simp only [List.length_map];refine qm ?_;refine qe hK ?_;have hH := hH.nulE 2;refine EvC.block ?_;refine EvC.loop (fun mm fr st => ∃ (i : Nat) (n : Int) (o : D) (out : List Rg), fr.clean = ⟨11, [ixF_Tb fr 0, ixF_Tb fr 1, ixF_Tb fr 2, o, .int .i32 n, ixF_Tb fr 5, ixF_Tb fr 6, ixF_Tb fr 7, rangesV m, .int .i64 (m.length : Nat), .int .i64 (i : Nat)], []⟩ ∧ Has s0.bs.length S st [.lst o 2 (out.map rangeC)] ∧ (i + mm = m.length) ∧ (out.length = i) ∧ (out ++ notL (m.drop i) n = notL m 0)) (m.length) ?_ ?_
 ·exact ⟨0, 0, .nul, [], rfl, hH, by omega, rfl, rfl⟩
 rintro mm fr st ⟨i, n, o, out, hfr, hH, hi, ho, hn⟩;rw [hfr];clear hfr;generalize ixF_Tb fr = ee;clear fr;refine qq ?_;refine qj fun K hK => ?_;refine qg ?_;refine qe hK ?_;refine qq ?_;refine EvC.cond (by rfl) (fun h1 => ?_) (fun h1 => ?_) <;> try simp only [decide_eq_true_eq, decide_eq_false_iff_not] at h1
 ·refine EvC.skip ?_
  obtain ⟨q, hq⟩ : ∃ q, m[i]? = some q := ⟨m[i]'(by omega), List.getElem?_eq_getElem _⟩
  have hr := range_get hq
  have hdr : m.drop i = q :: m.drop (i + 1) := by
   have := List.drop_eq_getElem_cons (l := m) (i := i) (by omega);rw [this]; congr 1;rw [List.getElem?_eq_getElem (by omega)] at hq;exact Option.some.inj hq
  rw [hdr] at hn;refine qq ?_;refine EvC.block ?_;refine qq ?_;refine qj fun K hK => ?_;refine qr fun p12 hp12 => ?_;refine EvO.rloadS rfl (ev rfl) (by assumption) rfl (put_T rfl _) ?_;refine qa hH fun k6 st hk6 hH => ?_;refine qS hH at0 fun st hH => ?_;dsimp only [u2, u1, u3, u4, setMany, u5, u6, D.cells, Nat.reduceAdd, rangeC] at hH;refine qe hK ?_;refine qq ?_;refine qj fun K hK => ?_;refine qm ?_;refine qm ?_;refine qp (o := 0) ?_;refine ql hH at0 ?_;refine EvO.subZ (z := wrapD .i32 (q.1 - 1)) rfl (ev rfl) (ev rfl) rfl (put_T rfl _) ?_;refine EvO.ones (qs := [(0, _), (1, _)]) rfl rfl rfl rfl ⟨rfl, (ev rfl), (by rfl), rfl, (ev rfl), (by rfl), trivial⟩ (by intro q hq; simp only [List.mem_cons, List.not_mem_nil, or_false] at hq; rcases hq with rfl | rfl <;> exact ⟨rfl, by exact Nat.le_of_ble_eq_true rfl⟩) (by show List.foldl _ [_, _] _ = _; dsimp only [List.foldl_cons, List.foldl_nil, u2, u1] <;> rfl) (put_T rfl _) ?_;refine qh (s := 2) (vs := [_]) hH fun k20 st hk20 hH => ?_;refine EvO.happend (s := 2) hH rfl (ev rfl) (ev rfl) (by exact at2) (by exact hH.rows (by exact at0)) rfl rfl rfl rfl rfl rfl rfl ⟨(Nat.le_of_ble_eq_true rfl), (Nat.le_of_ble_eq_true rfl)⟩ (fun _ => (put_T rfl _)) (by simp only [List.length_cons, List.length_nil, List.length_map] <;> omega) (by exact .inl hF) (fun x21 st hH => ?_);dsimp only [u2, u1, u3, u4, setMany, u5, u6, D.cells, Nat.reduceAdd, rangeC] at hH;refine qm ?_;refine qe hK ?_;refine qj fun K hK => ?_;refine qp (o := 1) ?_;refine ql hH at1 ?_;refine EvO.addZ (z := wrapD .i32 (q.2 + 1)) rfl (ev rfl) (ev rfl) rfl (put_T rfl _) ?_;refine qm ?_;refine qe hK ?_;refine qj fun K hK => ?_;refine qA ?_;refine qm ?_;refine qe hK ?_;exact ⟨mm - 1, by omega, ⟨i + 1, _, _, out ++ [(n, wrapD .i32 (q.1 - 1))], rfl, (by rw [List.map_append]; exact hH.drop 2), by omega, by simp [ho], (by rw [← hn, List.append_assoc]; rfl)⟩⟩
 ·refine EvC.exit ?_;have hi2 : m.drop i = [] := List.drop_eq_nil_of_le (by omega);rw [hi2] at hn;have hn : out ++ [(n, 1114111)] = notL m 0 := hn;refine qq ?_;refine qj fun K hK => ?_;refine qm ?_;refine qm ?_;refine EvO.ones (qs := [(0, _), (1, _)]) rfl rfl rfl rfl ⟨rfl, (ev rfl), (by rfl), rfl, (ev rfl), (by rfl), trivial⟩ (by intro q hq; simp only [List.mem_cons, List.not_mem_nil, or_false] at hq; rcases hq with rfl | rfl <;> exact ⟨rfl, by exact Nat.le_of_ble_eq_true rfl⟩) (by show List.foldl _ [_, _] _ = _; dsimp only [List.foldl_cons, List.foldl_nil, u2, u1] <;> rfl) (put_T rfl _) ?_;refine qh (s := 2) (vs := [_]) hH fun k29 st hk29 hH => ?_;refine EvO.happend (s := 2) hH rfl (ev rfl) (ev rfl) (by exact at1) (by exact hH.rows (by exact at0)) rfl rfl rfl rfl rfl rfl rfl ⟨(Nat.le_of_ble_eq_true rfl), (Nat.le_of_ble_eq_true rfl)⟩ (fun _ => (put_T rfl _)) (by simp only [List.length_cons, List.length_nil, List.length_map] <;> omega) (by exact .inl hF) (fun x30 st hH => ?_);dsimp only [u2, u1, u3, u4, setMany, u5, u6, D.cells, Nat.reduceAdd, rangeC] at hH;obtain ⟨hev, hl2, _⟩ := mk_ev (l := out ++ [(n, 1114111)]) (by rw [List.map_append]; exact hH.rows at1) (by simp; omega);refine qv hev ?_;refine qm ?_;refine qe hK ?_;rw [hn] at hl2 ⊢;refine EvC.ret ⟨rx, _, _, rfl, rl hSb hH (rfl), ?_⟩;rw [notL_len] at hl2;exact ⟨by rw [hN]; rfl, by rw [hN]; omega⟩
noncomputable def dotR : List Rg := notR [(10, 10)]
theorem dotX_ev {s0 : St} : Ev pv 124 [] s0 (rangesV dotR) s0 ∧ dotR.length ≤ 6 := by
 have hl : (notR [(10, 10)]).length ≤ 4 * 1 + 2 := (notX_ev (s0 := s0) (ranges_sl [(10, 10)] |>.rows s0) (by simp)).2;refine ⟨?_, hl⟩;unfold dotR;refine Ev.mk1 rfl fi124 rfl rfl rfl ?_;dsimp only [u3, u4, List.length, Nat.reduceSub, Nat.reduceAdd, w1, w2];obtain ⟨hSb, hF, hH⟩ := ri s0;generalize enterSt .ro s0 = S at *;refine qq ?_;refine qj fun K hK => ?_;refine qm ?_;refine qe hK ?_;refine qq ?_;refine qj fun K hK => ?_;refine EvO.ones (qs := [(0, _), (1, _)]) rfl rfl rfl rfl ⟨rfl, (ev rfl), (by rfl), rfl, (ev rfl), (by rfl), trivial⟩ (by intro q hq; simp only [List.mem_cons, List.not_mem_nil, or_false] at hq; rcases hq with rfl | rfl <;> exact ⟨rfl, by exact Nat.le_of_ble_eq_true rfl⟩) (by show List.foldl _ [_, _] _ = _; dsimp only [List.foldl_cons, List.foldl_nil, u2, u1] <;> rfl) (put_T rfl _) ?_;refine qh (s := 2) (vs := [_]) hH fun k2 st hk2 hH => ?_;obtain ⟨hev, _⟩ := notX_ev (l := [(10, 10)]) (hH.rows at0) (by simp);refine qv hev ?_;refine qm ?_;refine qe hK ?_;refine EvC.ret ⟨rx, _, rfl, rl hSb hH (rfl)⟩
def lessB (a b : List UInt8) : Bool := decide ((a.length : Int) < b.length) || (((a.length : Int) == b.length) && Op.bytesLess a b)
theorem lessX_ev {s0 : St} (a b : List UInt8) : Ev pv 127 [.str a, .str b] s0 (.bool (lessB a b)) s0 := by
 unfold lessB;refine Ev.mk1 rfl fi127 rfl rfl rfl ?_;dsimp only [u3, u4, List.length, Nat.reduceSub, Nat.reduceAdd, w1, w2];obtain ⟨hSb, hF, hH⟩ := ri s0;generalize enterSt .ro s0 = S at *;refine qq ?_;refine qj fun K hK => ?_;refine qm ?_;refine qe hK ?_;refine qq ?_;refine EvC.cutL 4 (.bool (decide ((a.length : Int) < b.length) || (((a.length : Int) == b.length) && Op.bytesLess a b))) [] ?_ (fun ff tmp => ?_)
 ·refine qm ?_;refine EvO.slen rfl rfl rfl (put_T rfl _) ?_;refine qm ?_;refine EvO.slen rfl rfl rfl (put_T rfl _) ?_;refine qg ?_;refine qm ?_;refine EvO.two 10 rfl (fun hg5 => ?_) (fun hg5 => ?_)
  ·refine qs ?_ (hg := wn hg5);refine qs ?_ (hg := wn hg5);refine qs ?_ (hg := wn hg5);refine qs ?_ (hg := wn hg5);refine qs ?_ (hg := wn hg5);refine qs ?_ (hg := wn hg5);refine qs ?_;refine qs ?_;refine qs ?_;refine qs ?_ (hg := wn hg5);refine qt hg5 ?_;refine qm ?_;refine EvO.nil (leafL ?_);dsimp only [setW, List.foldl, nth, u2, u1];dsimp only [Fr.putO, Fr.put, Fr.clean, Fr.ev, Fr.get, nth, V.look, u1, u2, v1, v2, v3, v4, v5, v6, v7, List.length, u3, u4, Nat.reduceSub, Nat.reduceAdd, List.map]
   all_goals (simp_all; done)
  ·refine qm ?_ (hg := wi hg5);refine EvO.slen (wantD_is rfl rfl rfl hg5) rfl rfl (put_T rfl _) ?_;refine qm ?_ (hg := wi hg5);refine EvO.slen (wantD_is rfl rfl rfl hg5) rfl rfl (put_T rfl _) ?_;refine qg ?_ (hg := wi hg5);refine qm ?_ (hg := wi hg5);refine EvO.two 16 rfl (fun hg11 => ?_) (fun hg11 => ?_)
   ·refine qm ?_ (hg := wi hg11);refine qm ?_ (hg := wi hg11);refine qg ?_ (hg := wi hg11);refine EvO.pickT (wantD_is rfl rfl rfl hg5) rfl hg11 (put_T rfl _) ?_;refine qu hg5 ?_;refine qm ?_;refine EvO.nil (leafL ?_);dsimp only [setW, List.foldl, nth, u2, u1];dsimp only [Fr.putO, Fr.put, Fr.clean, Fr.ev, Fr.get, nth, V.look, u1, u2, v1, v2, v3, v4, v5, v6, v7, List.length, u3, u4, Nat.reduceSub, Nat.reduceAdd, List.map]
    all_goals (simp_all; done)
   ·refine qs ?_ (hg := wn hg11);refine qs ?_ (hg := wn hg11);refine qs ?_ (hg := wn hg11);refine EvO.pickF (wantD_is rfl rfl rfl hg5) rfl hg11 (put_T rfl _) ?_;refine qu hg5 ?_;refine qm ?_;refine EvO.nil (leafL ?_);dsimp only [setW, List.foldl, nth, u2, u1];dsimp only [Fr.putO, Fr.put, Fr.clean, Fr.ev, Fr.get, nth, V.look, u1, u2, v1, v2, v3, v4, v5, v6, v7, List.length, u3, u4, Nat.reduceSub, Nat.reduceAdd, List.map]
    all_goals (simp_all; done)
 dsimp only [setW, List.foldl, nth, u2, u1];refine EvC.ret ⟨rx, _, rfl, rl hSb hH (rfl)⟩
def valL : List UInt8 → Int → Int
 | [], n => n
 | c :: l, n => valL l (wrapD .i64 (wrapD .i64 (10 * n) + wrapD .i64 (wrapD .u8 ((c.toNat : Nat) - 48))))
def valF (b : List UInt8) : Int × Bool := if 2 < b.length then (0, false) else (valL b 0, decide (valL b 0 ≤ 30))
theorem valueX_ev {s0 : St} (b : List UInt8) (hb : b.length ≤ 1048576) : Ev pv 128 [.str b] s0 (.tup [.int .i64 (valF b).1, .bool (valF b).2]) s0 := by
 suffices hg : ∃ d, Ev pv 128 [.str b] s0 d s0 ∧ d = .tup [.int .i64 (valF b).1, .bool (valF b).2] by
  obtain ⟨d, h1, rfl⟩ := hg;exact h1
 unfold valF;refine Ev.mkR rfl fi128 rfl rfl rfl ?_;dsimp only [u3, u4, List.length, Nat.reduceSub, Nat.reduceAdd, w1, w2];obtain ⟨hSb, hF, hH⟩ := ri s0;generalize enterSt .ro s0 = S at *;refine qq ?_;refine qj fun K hK => ?_;refine qm ?_;refine qm ?_;refine qe hK ?_;refine qq ?_;refine qq ?_;refine qj fun K hK => ?_;refine qm ?_;refine EvO.slen rfl rfl rfl (by dsimp only [Fr.put, u1, u2] <;> rfl) ?_;refine qg ?_;refine qe hK ?_;refine EvC.cond (by rfl) (fun h0 => ?_) (fun h0 => ?_) <;> try simp only [decide_eq_true_eq, decide_eq_false_iff_not] at h0
 ·rw [if_pos (by omega)];refine qq ?_;refine qj fun K hK => ?_;refine qm ?_;refine qm ?_;refine qe hK ?_;refine EvC.ret ⟨rx, _, _, rfl, rl hSb hH (rfl), ?_⟩
  rfl
 ·rw [if_neg (by omega)];refine EvC.skip ?_;refine qq ?_;refine qj fun K hK => ?_;refine qm ?_;refine qe hK ?_;refine qq ?_;refine qq ?_;refine qj fun K hK => ?_;refine qm ?_;refine EvO.slen rfl rfl rfl (by dsimp only [Fr.put, u1, u2] <;> rfl) ?_;refine qm ?_;refine qe hK ?_;refine EvC.block ?_;refine EvC.loop (fun mm fr st => ∃ (i : Nat) (n : Int), fr.clean = ⟨12, [.str b, ixF_Tb fr 1, ixF_Tb fr 2, ixF_Tb fr 3, .int .i64 n, ixF_Tb fr 5, ixF_Tb fr 6, ixF_Tb fr 7, ixF_Tb fr 8, ixF_Tb fr 9, .int .i64 (b.length : Nat), .int .i64 (i : Nat)], []⟩ ∧ Has s0.bs.length S st [] ∧ (i + mm = b.length) ∧ (valL (b.drop i) n = valL b 0)) (b.length) ?_ ?_
  ·exact ⟨0, 0, rfl, hH, by omega, rfl⟩
  rintro mm fr st ⟨i, n, hfr, hH, hi, hn⟩;rw [hfr];clear hfr;generalize ixF_Tb fr = ee;clear fr;refine qq ?_;refine qj fun K hK => ?_;refine qg ?_;refine qe hK ?_;refine qq ?_;refine EvC.cond (by rfl) (fun h1 => ?_) (fun h1 => ?_) <;> try simp only [decide_eq_true_eq, decide_eq_false_iff_not] at h1
  ·refine EvC.skip ?_
   obtain ⟨c, hc⟩ : ∃ c, b[i]? = some c := ⟨b[i]'(by omega), List.getElem?_eq_getElem _⟩
   have hdr : b.drop i = c :: b.drop (i + 1) := by
    have := List.drop_eq_getElem_cons (l := b) (i := i) (by omega);rw [this]; congr 1;rw [List.getElem?_eq_getElem (by omega)] at hc;exact Option.some.inj hc
   rw [hdr] at hn;refine qq ?_;refine EvC.block ?_;refine qq ?_;refine qj fun K hK => ?_;refine qm ?_;refine qm ?_;refine qe hK ?_;refine qj fun K hK => ?_;refine qm ?_;refine EvO.mulZ (z := wrapD .i64 (10 * n)) rfl (ev rfl) (ev rfl) rfl (put_T rfl _) ?_;refine qm ?_;refine qm ?_;refine EvO.sidx rfl (ev rfl) (ev rfl) rfl (by assumption) (put_T rfl _) ?_;refine EvO.go (d := .int .u8 (wrapD .u8 ((c.toNat : Nat) - 48))) (st1 := _) rfl rfl rfl (put_T rfl _) ?_;refine qg ?_;refine EvO.addZ (z := wrapD .i64 (wrapD .i64 (10 * n) + wrapD .i64 (wrapD .u8 ((c.toNat : Nat) - 48)))) rfl (ev rfl) (ev rfl) rfl (put_T rfl _) ?_;refine qm ?_;refine qe hK ?_;refine qj fun K hK => ?_;refine qA ?_;refine qm ?_;refine qe hK ?_;exact ⟨mm - 1, by omega, ⟨i + 1, _, rfl, hH, by omega, hn⟩⟩
  ·refine EvC.exit ?_;have hi2 : b.drop i = [] := List.drop_eq_nil_of_le (by omega);rw [hi2] at hn;have hn : n = valL b 0 := hn;rw [← hn];refine qq ?_;refine qj fun K hK => ?_;refine qm ?_;refine qm ?_;refine qg ?_;refine qm ?_;refine qm ?_;refine qe hK ?_;refine EvC.ret ⟨rx, _, _, rfl, rl hSb hH (rfl), ?_⟩
   rfl
def ErrX {α : Type} (R : PR α) (pls : List Int) (s' : Prs) : Prop := ∃ e w, R = .er e w ∧ e ≠ 0 ∧ s'.e = e ∧ s'.w = pls.getD w 0
theorem ErrX.ne {α : Type} {R : PR α} {pls : List Int} {s' : Prs} (h : ErrX R pls s') : s'.e ≠ 0 := by
 obtain ⟨e, w, _, h1, h2, _⟩ := h;rw [h2]; exact h1
theorem ErrX.map {α β : Type} {R : PR α} {R' : PR β} {pls : List Int} {s' : Prs} (h : ErrX R pls s') (hR : ∀ e w, R = .er e w → R' = .er e w) : ErrX R' pls s' := by
 obtain ⟨e, w, h0, h1, h2, h3⟩ := h;exact ⟨e, w, hR e w h0, h1, h2, h3⟩
theorem wrong_x {α : Type} {R : PR α} {pls : List Int} {s : Prs} {i : Nat} {e : Int} (he : s.e = 0) (h : e ≠ 0) (hR : R = .er e i) : ErrX R pls (wrongS pls s i e) ∧ (wrongS pls s i e).i = s.i ∧ (wrongS pls s i e).o = s.o ∧ (wrongS pls s i e).g = s.g := by
 unfold wrongS; rw [if_pos he]; exact ⟨⟨e, i, hR, h, rfl, rfl⟩, rfl, rfl, rfl⟩
def rsF (gs : List (Nat × Nat)) (i : Nat) : List Int := (gs.map fun g => ((g.1 : Nat) : Int)).drop i
theorem digitsX_ev {N k : Nat} {S s0 : St} {H : List Ent} {gs : List (Nat × Nat)} {plD : D} {s : Prs} (hgl : gs.length ≤ 120) (hi : s.i ≤ gs.length) (hne : gs ≠ []) (hH : Has N S s0 (.box k (.mem 0 false (prsC gs plD s)) :: H)) :
  ∃ d st', Ev pv 126 [.ptr k 0 0] s0 d st' ∧ d = .tup [.str (digS (rsF gs s.i) []).1, .bool (decide (0 < (digS (rsF gs s.i) []).2))] ∧ (digS (rsF gs s.i) []).1.length ≤ 120 ∧ s.i + (digS (rsF gs s.i) []).2 ≤ gs.length ∧ Has N S st' (.box k (.mem 0 false (prsC gs plD { s with i := s.i + (digS (rsF gs s.i) []).2 })) :: H) := by
 have hb := hH.at at0;have hw := canW_has (cs := [.int .i64 0]) hH (hH.ge at0).1 (.inr rfl);have hl := digS_len (rsF gs s.i) [];unfold rsF at *;obtain ⟨h1, h2⟩ := hl;simp only [List.length_drop, List.length_map, List.length_nil] at h1 h2;refine ⟨_, _, Ev.prim rfl ?_, rfl, by omega, by omega, hH.setBox (ver := 0) at0⟩
 have hd : decide ((gs.map fun g => ((g.1 : Nat) : Int)) ≠ [] ∧ (0 : Int) ≤ (s.i : Nat) ∧ ((s.i : Nat) : Int).toNat ≤ (gs.map fun g => ((g.1 : Nat) : Int)).length ∧ (gs.map fun g => ((g.1 : Nat) : Int)).length < 1099511627776) = true := by
  rw [decide_eq_true];refine ⟨by simpa using hne, by omega, by simp; omega, by simp; omega⟩
 show digP [.ptr k 0 0] s0 = _;simp only [digP, St.mem_of hb];show (match runesD ((gs.map gotC).map (elD 2)) with | some rs => digQ s0 k 0 0 rs (s.i : Nat) | none => none) = _;rw [runesD_gots];simp only [digQ, hd];have hwr := wr_own (cs := [.int .i64 ((s.i + (digS ((gs.map fun g => ((g.1 : Nat) : Int)).drop s.i) []).2 : Nat))]) (off := 2) hb (by show 2 + 1 ≤ 7; omega) hw;simp only [Int.toNat_natCast, Nat.zero_add];rw [hwr]
 rfl
noncomputable def signF (gs : List (Nat × Nat)) (f : Nat) : PR (List Rg × Bool) :=
 match gs[f + 1]? with
 | none => .er 4 f
 | some g =>
  if badS gs (f + 1) = true then .er 4 (f + 1)
  else if ((g.1 : Nat) : Int) = 110 then .ok (makeR [(10, 10)], true) (f + 2)
  else if ((g.1 : Nat) : Int) = 116 then .ok (makeR [(9, 9)], true) (f + 2)
  else if ((g.1 : Nat) : Int) = 114 then .ok (makeR [(13, 13)], true) (f + 2)
  else if ((g.1 : Nat) : Int) = 100 then .ok (makeR [(48, 57)], false) (f + 2)
  else if ((g.1 : Nat) : Int) = 115 then .ok (makeR [(9, 10), (13, 13), (32, 32)], false) (f + 2)
  else if ((g.1 : Nat) : Int) = 119 then .ok (makeR [(48, 57), (65, 90), (95, 95), (97, 122)], false) (f + 2)
  else if (33 ≤ ((g.1 : Nat) : Int) ∧ ((g.1 : Nat) : Int) ≤ 47 ∨ 58 ≤ ((g.1 : Nat) : Int) ∧ ((g.1 : Nat) : Int) ≤ 64 ∨ 91 ≤ ((g.1 : Nat) : Int) ∧ ((g.1 : Nat) : Int) ≤ 96 ∨ 123 ≤ ((g.1 : Nat) : Int) ∧ ((g.1 : Nat) : Int) ≤ 126) then .ok (makeR [(((g.1 : Nat) : Int), ((g.1 : Nat) : Int))], true) (f + 2)
  else .er 4 f
def SignX (gs : List (Nat × Nat)) (pls : List Int) (R : PR (List Rg × Bool)) (s s' : Prs) (d1 : D) (b : Bool) : Prop :=
 s'.o = s.o ∧ s'.g = s.g ∧ s.i ≤ s'.i ∧ s'.i ≤ gs.length ∧ (ErrX R pls s' ∧ d1 = .nul ∨ s'.e = 0 ∧ s.i < s'.i ∧ ∃ a, R = .ok (a, b) s'.i ∧ d1 = rangesV a ∧ a.length ≤ 8 ∧ a ≠ [])
theorem signX_ev {N k : Nat} {S s0 : St} {H : List Ent} {gs : List (Nat × Nat)} {plD : D} {pls : List Int} {s : Prs} (hok : PrsOk gs pls) (he : s.e = 0) (hi : s.i < gs.length) (hH : Has N S s0 (.box k (.mem 0 false (prsC gs plD s)) :: .lst plD 1 (pls.map intC) :: H)) :
  ∃ d st', Ev pv 123 [.ptr k 0 0] s0 d st' ∧ ∃ (d1 : D) (b : Bool) (s' : Prs), d = .tup [d1, .bool b] ∧ SignX gs pls (signF gs s.i) s s' d1 b ∧ Has N S st' (.box k (.mem 0 false (prsC gs plD s')) :: .lst plD 1 (pls.map intC) :: H) := by
 have hgl := hok.gl;have hpl := hok.pl;refine Ev.mkE rfl fi123 rfl rfl rfl ?_;dsimp only [u3, u4, List.length, Nat.reduceSub, Nat.reduceAdd, w1, w2];have hH0 := hH;have hH := hH.enterRw;have hS2 : (enterSt .rw s0).bs = s0.bs := rfl;generalize enterSt .rw s0 = S2 at *;have hgr : Arg N S2 2 (gotsD gs) (gs.map gotC) := Arg.pure (fun st => gots_rows st gs);refine qq ?_;refine qj fun K hK => ?_;refine qm ?_;refine qm ?_;refine qe hK ?_;refine qq ?_;refine qj fun K hK => ?_;refine qm ?_;refine qg ?_;refine qp (o := 2) ?_;refine ql hH at0 ?_;refine qm ?_;refine qe hK ?_;refine qq ?_;refine qj fun K hK => ?_;refine qm ?_;refine qg ?_;refine qp (o := 2) ?_;refine ql hH at0 ?_;refine qA ?_;refine qg ?_;refine qp (o := 2) ?_;refine qT hH at0 fun st hH => ?_;dsimp only [u2, u1, u3, u4, setMany, u5, u6, D.cells, Nat.reduceAdd, prsC, gotC, intC, rangeC] at hH;refine qe hK ?_;refine qq ?_;refine qq ?_;refine qj fun K hK => ?_;refine qm ?_;refine qg ?_;refine qp (o := 2) ?_;refine ql hH at0 ?_;refine qm ?_;refine qg ?_;refine qp (o := 0) ?_;refine ql hH at0 ?_;refine qn ?_;simp only [List.length_map];refine qg ?_;refine qe hK ?_;refine EvC.cond (by rfl) (fun h0 => ?_) (fun h0 => ?_) <;> try simp only [decide_eq_true_eq, decide_eq_false_iff_not] at h0
 ·have hv : signF gs s.i = .er 4 s.i := by
   unfold signF; rw [List.getElem?_eq_none (by omega)]
  refine qq ?_;refine qj fun K hK => ?_;refine qm ?_;refine qm ?_;obtain ⟨_, st, hev, rfl, hH⟩ := wrong_ev (s := { s with i := s.i + 1 }) s.i 4 (by omega) hH;refine qv hev ?_;refine qe hK ?_;refine qq ?_;refine qj fun K hK => ?_;refine qm ?_;refine qm ?_;refine qe hK ?_;obtain ⟨h1, h2, h3, h4⟩ := wrong_x (pls := pls) (s := { s with i := s.i + 1 }) (i := s.i) (e := 4) he (by decide) hv;refine EvC.ret ⟨rx, _, _, _, rfl, leaveD_rw (rfl), ?_⟩;exact ⟨_, _, _, rfl, ⟨h3, h4, by rw [h2]; simp, by rw [h2]; exact hi, .inl ⟨h1, rfl⟩⟩, hH0.leaveRw1 hS2 hH⟩
 ·obtain ⟨g, hg⟩ : ∃ g, gs[s.i + 1]? = some g := ⟨gs[s.i + 1]'(by omega), List.getElem?_eq_getElem _⟩
  have hr1 : (gs.map gotC)[s.i + 1]? = some (gotC g) := by rw [List.getElem?_map, hg]; rfl
  have hlt := lt_get hg;have hv : signF gs s.i = signF gs s.i := rfl
  conv at hv => rhs; unfold signF; simp only [hg]
  refine EvC.skip ?_;refine qq ?_;refine qq ?_;refine qj fun K hK => ?_;refine qm ?_;refine qm ?_;refine qg ?_;refine qp (o := 2) ?_;refine ql hH at0 ?_;obtain ⟨_, st, hev, rfl, hH⟩ := bad_ev (s := { s with i := s.i + 1 }) (s.i + 1) hlt hH;refine qv hev ?_;refine qe hK ?_;dsimp only [prsC] at hH;refine qc (fun hb => ?_) (fun hb => ?_) <;> try simp only [cs] at hb
  ·rw [if_pos hb] at hv;refine qq ?_;refine qj fun K hK => ?_;refine qm ?_;refine qm ?_;refine qg ?_;refine qp (o := 2) ?_;refine ql hH at0 ?_;obtain ⟨_, st, hev, rfl, hH⟩ := wrong_ev (s := { s with i := s.i + 1 }) (s.i + 1) 4 (by omega) hH;refine qv hev ?_;refine qe hK ?_;refine qq ?_;refine qj fun K hK => ?_;refine qm ?_;refine qm ?_;refine qe hK ?_;obtain ⟨h1, h2, h3, h4⟩ := wrong_x (pls := pls) (s := { s with i := s.i + 1 }) (i := s.i + 1) (e := 4) he (by decide) hv;refine EvC.ret ⟨rx, _, _, _, rfl, leaveD_rw (rfl), ?_⟩;exact ⟨_, _, _, rfl, ⟨h3, h4, by rw [h2]; simp, by rw [h2]; exact hi, .inl ⟨h1, rfl⟩⟩, hH0.leaveRw1 hS2 hH⟩
  ·rw [if_neg (by rw [hb]; simp)] at hv;refine EvC.skip ?_;refine qq ?_;refine qj fun K hK => ?_;refine qm ?_;refine qg ?_;refine qp (o := 0) ?_;refine ql hH at0 ?_;refine qm ?_;refine qg ?_;refine qp (o := 2) ?_;refine ql hH at0 ?_;refine qr fun p50 hp50 => ?_;refine qf (fo := 0) fun p51 hp51 => ?_;refine qR ?_;refine qm ?_;refine qe hK ?_;refine qq ?_;refine qj fun K hK => ?_;refine qm ?_;refine qg ?_;refine qp (o := 2) ?_;refine ql hH at0 ?_;refine qA ?_;refine qg ?_;refine qp (o := 2) ?_;refine qT hH at0 fun st hH => ?_;dsimp only [u2, u1, u3, u4, setMany, u5, u6, D.cells, Nat.reduceAdd, prsC, gotC, intC, rangeC] at hH;refine qe hK ?_;refine qq ?_;refine qq ?_;refine qj fun K hK => ?_;refine qm ?_;refine qe hK ?_
   have hfin : ∀ (a : List Rg) (b : Bool), signF gs s.i = .ok (a, b) (s.i + 2) → a.length ≤ 8 → a ≠ [] → SignX gs pls (signF gs s.i) s { s with i := s.i + 1 + 1 } (rangesV a) b := fun a b h0 h1 h2 => ⟨rfl, rfl, by show s.i ≤ s.i + 1 + 1; omega, by show s.i + 1 + 1 ≤ _; omega, .inr ⟨he, by show s.i < s.i + 1 + 1; omega, a, h0, rfl, h1, h2⟩⟩
   have hone : ∀ (r : Int), 0 ≤ r → r < 55296 → (makeR [(r, r)]).length ≤ 8 ∧ makeR [(r, r)] ≠ [] := by
    intro r h1 h2;obtain ⟨_, h3, h4⟩ := mk_ev (s0 := s0) (x := rangesV [(r, r)]) (l := [(r, r)]) (rangesV_rows _ _) (by simp);exact ⟨by simp at h3; omega, make_single h1 h2 h4⟩
   refine EvC.block ?_;refine qq ?_;refine qj fun K hK => ?_;refine qg ?_;refine qm ?_;refine qe hK ?_;refine EvC.cond (by rfl) (fun q1 => ?_) (fun q1 => ?_) <;> try simp only [beq_iff_eq, beq_eq_false_iff_ne, ne_eq] at q1
   ·rw [if_pos q1] at hv;refine qq ?_;refine qj fun K hK => ?_;refine qv (single_ev 10) ?_;refine qm ?_;refine qm ?_;refine qe hK ?_;refine EvC.ret ⟨rx, _, _, _, rfl, leaveD_rw (rfl), ?_⟩;exact ⟨_, _, _, rfl, hfin _ _ hv (hone 10 (by decide) (by decide)).1 (hone 10 (by decide) (by decide)).2, hH0.leaveRw1 hS2 hH⟩
   ·rw [if_neg q1] at hv;refine qq ?_;refine qj fun K hK => ?_;refine qg ?_;refine qm ?_;refine qe hK ?_;refine EvC.cond (by rfl) (fun q2 => ?_) (fun q2 => ?_) <;> try simp only [beq_iff_eq, beq_eq_false_iff_ne, ne_eq] at q2
    ·rw [if_pos q2] at hv;refine qq ?_;refine qj fun K hK => ?_;refine qv (single_ev 9) ?_;refine qm ?_;refine qm ?_;refine qe hK ?_;refine EvC.ret ⟨rx, _, _, _, rfl, leaveD_rw (rfl), ?_⟩;exact ⟨_, _, _, rfl, hfin _ _ hv (hone 9 (by decide) (by decide)).1 (hone 9 (by decide) (by decide)).2, hH0.leaveRw1 hS2 hH⟩
    ·rw [if_neg q2] at hv;refine qq ?_;refine qj fun K hK => ?_;refine qg ?_;refine qm ?_;refine qe hK ?_;refine EvC.cond (by rfl) (fun q3 => ?_) (fun q3 => ?_) <;> try simp only [beq_iff_eq, beq_eq_false_iff_ne, ne_eq] at q3
     ·rw [if_pos q3] at hv;refine qq ?_;refine qj fun K hK => ?_;refine qv (single_ev 13) ?_;refine qm ?_;refine qm ?_;refine qe hK ?_;refine EvC.ret ⟨rx, _, _, _, rfl, leaveD_rw (rfl), ?_⟩;exact ⟨_, _, _, rfl, hfin _ _ hv (hone 13 (by decide) (by decide)).1 (hone 13 (by decide) (by decide)).2, hH0.leaveRw1 hS2 hH⟩
     ·rw [if_neg q3] at hv;refine qq ?_;refine qj fun K hK => ?_;refine qg ?_;refine qm ?_;refine qe hK ?_;refine EvC.cond (by rfl) (fun q4 => ?_) (fun q4 => ?_) <;> try simp only [beq_iff_eq, beq_eq_false_iff_ne, ne_eq] at q4
      ·rw [if_pos q4] at hv;refine qq ?_;refine qj fun K hK => ?_;refine EvO.ones (qs := [(0, _), (1, _)]) rfl rfl rfl rfl ⟨rfl, (ev rfl), (by rfl), rfl, (ev rfl), (by rfl), trivial⟩ (by intro q hq; simp only [List.mem_cons, List.not_mem_nil, or_false] at hq; rcases hq with rfl | rfl <;> exact ⟨rfl, by exact Nat.le_of_ble_eq_true rfl⟩) (by show List.foldl _ [_, _] _ = _; dsimp only [List.foldl_cons, List.foldl_nil, u2, u1] <;> rfl) (put_T rfl _) ?_;refine qh (s := 2) (vs := [_]) hH fun k73 st hk73 hH => ?_;obtain ⟨hev, hl, hmk⟩ := mk_ev (l := [(48, 57)]) (hH.rows at0) (by simp);refine qv hev ?_;refine qm ?_;refine qm ?_;refine qe hK ?_;refine EvC.ret ⟨rx, _, _, _, rfl, leaveD_rw (rfl), ?_⟩;exact ⟨_, _, _, rfl, hfin _ _ hv (by simp at hl; omega) (make_ne (r := 48) (by decide) (by decide) ⟨_, List.mem_cons_self .., by decide, by decide⟩ hmk), hH0.leaveRw1 hS2 (hH.drop 1)⟩
      ·rw [if_neg q4] at hv;refine qq ?_;refine qj fun K hK => ?_;refine qg ?_;refine qm ?_;refine qe hK ?_;refine EvC.cond (by rfl) (fun q5 => ?_) (fun q5 => ?_) <;> try simp only [beq_iff_eq, beq_eq_false_iff_ne, ne_eq] at q5
       ·rw [if_pos q5] at hv;refine qq ?_;refine qj fun K hK => ?_;refine EvO.ones (qs := [(0, _), (1, _)]) rfl rfl rfl rfl ⟨rfl, (ev rfl), (by rfl), rfl, (ev rfl), (by rfl), trivial⟩ (by intro q hq; simp only [List.mem_cons, List.not_mem_nil, or_false] at hq; rcases hq with rfl | rfl <;> exact ⟨rfl, by exact Nat.le_of_ble_eq_true rfl⟩) (by show List.foldl _ [_, _] _ = _; dsimp only [List.foldl_cons, List.foldl_nil, u2, u1] <;> rfl) (put_T rfl _) ?_;refine EvO.ones (qs := [(0, _), (1, _)]) rfl rfl rfl rfl ⟨rfl, (ev rfl), (by rfl), rfl, (ev rfl), (by rfl), trivial⟩ (by intro q hq; simp only [List.mem_cons, List.not_mem_nil, or_false] at hq; rcases hq with rfl | rfl <;> exact ⟨rfl, by exact Nat.le_of_ble_eq_true rfl⟩) (by show List.foldl _ [_, _] _ = _; dsimp only [List.foldl_cons, List.foldl_nil, u2, u1] <;> rfl) (put_T rfl _) ?_;refine EvO.ones (qs := [(0, _), (1, _)]) rfl rfl rfl rfl ⟨rfl, (ev rfl), (by rfl), rfl, (ev rfl), (by rfl), trivial⟩ (by intro q hq; simp only [List.mem_cons, List.not_mem_nil, or_false] at hq; rcases hq with rfl | rfl <;> exact ⟨rfl, by exact Nat.le_of_ble_eq_true rfl⟩) (by show List.foldl _ [_, _] _ = _; dsimp only [List.foldl_cons, List.foldl_nil, u2, u1] <;> rfl) (put_T rfl _) ?_;refine qh (s := 2) (vs := [_, _, _]) hH fun k80 st hk80 hH => ?_;obtain ⟨hev, hl, hmk⟩ := mk_ev (l := [(9, 10), (13, 13), (32, 32)]) (hH.rows at0) (by simp);refine qv hev ?_;refine qm ?_;refine qm ?_;refine qe hK ?_;refine EvC.ret ⟨rx, _, _, _, rfl, leaveD_rw (rfl), ?_⟩;exact ⟨_, _, _, rfl, hfin _ _ hv (by simp at hl; omega) (make_ne (r := 9) (by decide) (by decide) ⟨_, List.mem_cons_self .., by decide, by decide⟩ hmk), hH0.leaveRw1 hS2 (hH.drop 1)⟩
       ·rw [if_neg q5] at hv;refine qq ?_;refine qj fun K hK => ?_;refine qg ?_;refine qm ?_;refine qe hK ?_;refine EvC.cond (by rfl) (fun q6 => ?_) (fun q6 => ?_) <;> try simp only [beq_iff_eq, beq_eq_false_iff_ne, ne_eq] at q6
        ·rw [if_pos q6] at hv;refine qq ?_;refine qj fun K hK => ?_;refine EvO.ones (qs := [(0, _), (1, _)]) rfl rfl rfl rfl ⟨rfl, (ev rfl), (by rfl), rfl, (ev rfl), (by rfl), trivial⟩ (by intro q hq; simp only [List.mem_cons, List.not_mem_nil, or_false] at hq; rcases hq with rfl | rfl <;> exact ⟨rfl, by exact Nat.le_of_ble_eq_true rfl⟩) (by show List.foldl _ [_, _] _ = _; dsimp only [List.foldl_cons, List.foldl_nil, u2, u1] <;> rfl) (put_T rfl _) ?_;refine EvO.ones (qs := [(0, _), (1, _)]) rfl rfl rfl rfl ⟨rfl, (ev rfl), (by rfl), rfl, (ev rfl), (by rfl), trivial⟩ (by intro q hq; simp only [List.mem_cons, List.not_mem_nil, or_false] at hq; rcases hq with rfl | rfl <;> exact ⟨rfl, by exact Nat.le_of_ble_eq_true rfl⟩) (by show List.foldl _ [_, _] _ = _; dsimp only [List.foldl_cons, List.foldl_nil, u2, u1] <;> rfl) (put_T rfl _) ?_;refine EvO.ones (qs := [(0, _), (1, _)]) rfl rfl rfl rfl ⟨rfl, (ev rfl), (by rfl), rfl, (ev rfl), (by rfl), trivial⟩ (by intro q hq; simp only [List.mem_cons, List.not_mem_nil, or_false] at hq; rcases hq with rfl | rfl <;> exact ⟨rfl, by exact Nat.le_of_ble_eq_true rfl⟩) (by show List.foldl _ [_, _] _ = _; dsimp only [List.foldl_cons, List.foldl_nil, u2, u1] <;> rfl) (put_T rfl _) ?_;refine EvO.ones (qs := [(0, _), (1, _)]) rfl rfl rfl rfl ⟨rfl, (ev rfl), (by rfl), rfl, (ev rfl), (by rfl), trivial⟩ (by intro q hq; simp only [List.mem_cons, List.not_mem_nil, or_false] at hq; rcases hq with rfl | rfl <;> exact ⟨rfl, by exact Nat.le_of_ble_eq_true rfl⟩) (by show List.foldl _ [_, _] _ = _; dsimp only [List.foldl_cons, List.foldl_nil, u2, u1] <;> rfl) (put_T rfl _) ?_;refine qh (s := 2) (vs := [_, _, _, _]) hH fun k88 st hk88 hH => ?_;obtain ⟨hev, hl, hmk⟩ := mk_ev (l := [(48, 57), (65, 90), (95, 95), (97, 122)]) (hH.rows at0) (by simp);refine qv hev ?_;refine qm ?_;refine qm ?_;refine qe hK ?_;refine EvC.ret ⟨rx, _, _, _, rfl, leaveD_rw (rfl), ?_⟩;exact ⟨_, _, _, rfl, hfin _ _ hv (by simp at hl; omega) (make_ne (r := 48) (by decide) (by decide) ⟨_, List.mem_cons_self .., by decide, by decide⟩ hmk), hH0.leaveRw1 hS2 (hH.drop 1)⟩
        ·rw [if_neg q6] at hv;refine EvC.skip ?_;refine qq ?_;refine qq ?_;refine qj fun K hK => ?_;refine qm ?_;refine qv (mark_ev _) ?_;refine qg ?_;refine qe hK ?_;refine EvC.cond (by rfl) (fun q7 => ?_) (fun q7 => ?_) <;> try simp only [decide_eq_true_eq, decide_eq_false_iff_not, Bool.not_eq_true', Bool.not_eq_false'] at q7
         ·rw [if_neg q7] at hv;refine qq ?_;refine qj fun K hK => ?_;refine qm ?_;refine qm ?_;obtain ⟨_, st, hev, rfl, hH⟩ := wrong_ev (s := { s with i := s.i + 1 + 1 }) s.i 4 (by omega) hH;refine qv hev ?_;refine qe hK ?_;refine qq ?_;refine qj fun K hK => ?_;refine qm ?_;refine qm ?_;refine qe hK ?_;obtain ⟨h1, h2, h3, h4⟩ := wrong_x (pls := pls) (s := { s with i := s.i + 1 + 1 }) (i := s.i) (e := 4) he (by decide) hv;refine EvC.ret ⟨rx, _, _, _, rfl, leaveD_rw (rfl), ?_⟩;exact ⟨_, _, _, rfl, ⟨h3, h4, by rw [h2]; show s.i ≤ s.i + 1 + 1; omega, by rw [h2]; show s.i + 1 + 1 ≤ _; omega, .inl ⟨h1, rfl⟩⟩, hH0.leaveRw1 hS2 hH⟩
         ·rw [if_pos q7] at hv;refine EvC.skip ?_;refine qq ?_;refine qj fun K hK => ?_;refine qm ?_;refine qv (single_ev _) ?_;refine qm ?_;refine qm ?_;refine qe hK ?_;have hm := hone ((g.1 : Nat) : Int) (by omega) (by omega);refine EvC.ret ⟨rx, _, _, _, rfl, leaveD_rw (rfl), ?_⟩;exact ⟨_, _, _, rfl, hfin _ _ hv hm.1 hm.2, hH0.leaveRw1 hS2 hH⟩
def ixF_Td (fr : Go.V.Fr) (k : Nat) : Go.V.D := Go.V.nth .junk fr.loc k
noncomputable def partF (gs : List (Nat × Nat)) (i : Nat) : PR (Option (List Rg × Bool)) :=
 match gs[i]? with
 | none => .er 4 i
 | some g =>
  if badS gs i = true then .er 4 i
  else if ((g.1 : Nat) : Int) = 92 then
   match signF gs i with
   | .ok (a, b) j => .ok (some (a, b)) j
   | .er e w => .er e w
  else if ((g.1 : Nat) : Int) = 91 ∨ ((g.1 : Nat) : Int) = 93 ∨ ((g.1 : Nat) : Int) = 45 then .ok none i
  else .ok (some ([(((g.1 : Nat) : Int), ((g.1 : Nat) : Int))], true)) (i + 1)
def PartX (gs : List (Nat × Nat)) (pls : List Int) (R : PR (Option (List Rg × Bool))) (s s' : Prs) (d1 : D) (b : Bool) : Prop :=
 s'.o = s.o ∧ s'.g = s.g ∧ s.i ≤ s'.i ∧ s'.i ≤ gs.length ∧ (ErrX R pls s' ∧ d1 = .nul ∨ (s' = s ∧ R = .ok none s.i ∧ d1 = .nul ∧ b = false) ∨ (s'.e = 0 ∧ s.i < s'.i ∧ ∃ a, R = .ok (some (a, b)) s'.i ∧ d1 = rangesV a ∧ a.length ≤ 8 ∧ a ≠ []))
theorem partX_ev {N k : Nat} {S s0 : St} {H : List Ent} {gs : List (Nat × Nat)} {plD : D} {pls : List Int} {s : Prs} (hok : PrsOk gs pls) (he : s.e = 0) (hi : s.i < gs.length) (hH : Has N S s0 (.box k (.mem 0 false (prsC gs plD s)) :: .lst plD 1 (pls.map intC) :: H)) :
  ∃ d st', Ev pv 147 [.ptr k 0 0] s0 d st' ∧ ∃ (d1 : D) (b : Bool) (s' : Prs), d = .tup [d1, .bool b] ∧ PartX gs pls (partF gs s.i) s s' d1 b ∧ Has N S st' (.box k (.mem 0 false (prsC gs plD s')) :: .lst plD 1 (pls.map intC) :: H) := by
 have hgl := hok.gl;have hpl := hok.pl;refine Ev.mkE rfl fi147 rfl rfl rfl ?_;dsimp only [u3, u4, List.length, Nat.reduceSub, Nat.reduceAdd, w1, w2];have hH0 := hH;have hH := hH.enterRw;have hS2 : (enterSt .rw s0).bs = s0.bs := rfl;generalize enterSt .rw s0 = S2 at *;have hgr : Arg N S2 2 (gotsD gs) (gs.map gotC) := Arg.pure (fun st => gots_rows st gs)
 obtain ⟨g, hg⟩ : ∃ g, gs[s.i]? = some g := ⟨gs[s.i]'hi, List.getElem?_eq_getElem _⟩
 have hr1 : (gs.map gotC)[s.i]? = some (gotC g) := by rw [List.getElem?_map, hg]; rfl
 have hv : partF gs s.i = partF gs s.i := rfl
 conv at hv => rhs; unfold partF; simp only [hg]
 refine qq ?_;refine qj fun K hK => ?_;refine qm ?_;refine qm ?_;refine qe hK ?_;refine qq ?_;refine qq ?_;refine qj fun K hK => ?_;refine qm ?_;refine qm ?_;refine qg ?_;refine qp (o := 2) ?_;refine ql hH at0 ?_;obtain ⟨_, st, hev, rfl, hH⟩ := bad_ev (s := s) s.i hi hH;refine qv hev ?_;refine qe hK ?_;refine qc (fun hb => ?_) (fun hb => ?_) <;> try simp only [cs] at hb
 ·rw [if_pos hb] at hv;refine qq ?_;refine qj fun K hK => ?_;refine qm ?_;refine qm ?_;refine qg ?_;refine qp (o := 2) ?_;refine ql hH at0 ?_;obtain ⟨_, st, hev, rfl, hH⟩ := wrong_ev (s := s) s.i 4 (by omega) hH;refine qv hev ?_;refine qe hK ?_;refine qq ?_;refine qj fun K hK => ?_;refine qm ?_;refine qm ?_;refine qe hK ?_;obtain ⟨h1, h2, h3, h4⟩ := wrong_x (pls := pls) (s := s) (i := s.i) (e := 4) he (by decide) hv;refine EvC.ret ⟨rx, _, _, _, rfl, leaveD_rw (rfl), ?_⟩;exact ⟨_, _, _, rfl, ⟨h3, h4, by rw [h2]; exact Nat.le_refl _, by rw [h2]; omega, .inl ⟨h1, rfl⟩⟩, hH0.leaveRw1 hS2 hH⟩
 ·rw [if_neg (by rw [hb]; simp)] at hv;refine EvC.skip ?_;refine qq ?_;refine qj fun K hK => ?_;refine qm ?_;refine qg ?_;refine qp (o := 0) ?_;refine ql hH at0 ?_;refine qm ?_;refine qg ?_;refine qp (o := 2) ?_;refine ql hH at0 ?_;refine qr fun p25 hp25 => ?_;refine qf (fo := 0) fun p26 hp26 => ?_;refine qR ?_;refine qm ?_;refine qe hK ?_;refine qq ?_;refine qj fun K hK => ?_;refine qm ?_;refine qe hK ?_;refine EvC.block ?_;refine qq ?_;refine qj fun K hK => ?_;refine qg ?_;refine qm ?_;refine qe hK ?_;refine EvC.cond (by rfl) (fun q1 => ?_) (fun q1 => ?_) <;> try simp only [beq_iff_eq, beq_eq_false_iff_ne, ne_eq] at q1
  ·rw [if_pos q1] at hv;refine qq ?_;refine qj fun K hK => ?_;refine qm ?_;obtain ⟨_, st, hev, d1, b, s', rfl, ⟨p1, p2, p3, p4, p5⟩, hH⟩ := signX_ev (s := s) hok he hi hH;refine qv hev ?_;refine qg ?_;refine qg ?_;refine qm ?_;refine qm ?_;refine qe hK ?_
   rcases p5 with ⟨p5, rfl⟩ | ⟨p5, p6, a, p7, rfl, p8, p9⟩
   ·refine EvC.ret ⟨rx, _, _, _, rfl, leaveD_rw (rfl), ?_⟩;exact ⟨_, _, _, rfl, ⟨p1, p2, p3, p4, .inl ⟨p5.map fun e w h => by rw [hv, h], rfl⟩⟩, hH0.leaveRw1 hS2 hH⟩
   ·refine EvC.ret ⟨rx, _, _, _, rfl, leaveD_rw (rfl), ?_⟩;exact ⟨_, _, _, rfl, ⟨p1, p2, p3, p4, .inr (.inr ⟨p5, p6, a, by rw [hv, p7], rfl, p8, p9⟩)⟩, hH0.leaveRw1 hS2 hH⟩
  ·rw [if_neg q1] at hv;refine qq ?_;refine qq ?_;refine qj fun K hK => ?_;refine qg ?_;refine qm ?_;refine qe hK ?_
   by_cases q91 : ((g.1 : Nat) : Int) = 91
   ·rw [if_pos (.inl q91)] at hv;refine qD rfl (by simp [q91]) ?_;refine EvC.skip ?_;refine qD rfl (by simp [q91]) ?_;refine qq ?_;refine qj fun K hK => ?_;refine qm ?_;refine qm ?_;refine qe hK ?_;refine EvC.ret ⟨rx, _, _, _, rfl, leaveD_rw (rfl), ?_⟩;exact ⟨_, _, s, rfl, ⟨rfl, rfl, Nat.le_refl _, by omega, .inr (.inl ⟨rfl, hv, rfl, rfl⟩)⟩, hH0.leaveRw1 hS2 hH⟩
   refine qE rfl (by simp [q91]) ?_;refine qq ?_;refine qj fun K hK => ?_;refine qg ?_;refine qm ?_;refine qe hK ?_
   by_cases q93 : ((g.1 : Nat) : Int) = 93
   ·rw [if_pos (.inr (.inl q93))] at hv;refine qD rfl (by simp [q93]) ?_;refine EvC.skip ?_;refine qD rfl (by simp [q93]) ?_;refine qq ?_;refine qj fun K hK => ?_;refine qm ?_;refine qm ?_;refine qe hK ?_;refine EvC.ret ⟨rx, _, _, _, rfl, leaveD_rw (rfl), ?_⟩;exact ⟨_, _, s, rfl, ⟨rfl, rfl, Nat.le_refl _, by omega, .inr (.inl ⟨rfl, hv, rfl, rfl⟩)⟩, hH0.leaveRw1 hS2 hH⟩
   refine qE rfl (by simp [q93]) ?_;refine qj fun K hK => ?_;refine qg ?_;refine qm ?_;refine qe hK ?_
   by_cases q45 : ((g.1 : Nat) : Int) = 45
   ·rw [if_pos (.inr (.inr q45))] at hv;refine qD rfl (by simp [q45]) ?_;refine qq ?_;refine qj fun K hK => ?_;refine qm ?_;refine qm ?_;refine qe hK ?_;refine EvC.ret ⟨rx, _, _, _, rfl, leaveD_rw (rfl), ?_⟩;exact ⟨_, _, s, rfl, ⟨rfl, rfl, Nat.le_refl _, by omega, .inr (.inl ⟨rfl, hv, rfl, rfl⟩)⟩, hH0.leaveRw1 hS2 hH⟩
   refine qE rfl (by simp [q45]) ?_;rw [if_neg (by rintro (h | h | h); exact q91 h; exact q93 h; exact q45 h)] at hv;refine qq ?_;refine qj fun K hK => ?_;refine qm ?_;refine qg ?_;refine qp (o := 2) ?_;refine ql hH at0 ?_;refine qA ?_;refine qg ?_;refine qp (o := 2) ?_;refine qT hH at0 fun st hH => ?_;dsimp only [u2, u1, u3, u4, setMany, u5, u6, D.cells, Nat.reduceAdd, prsC, gotC, intC, rangeC] at hH;refine qe hK ?_;refine qq ?_;refine qj fun K hK => ?_;refine qm ?_;refine qm ?_;refine EvO.ones (qs := [(0, _), (1, _)]) rfl rfl rfl rfl ⟨rfl, (ev rfl), (by rfl), rfl, (ev rfl), (by rfl), trivial⟩ (by intro q hq; simp only [List.mem_cons, List.not_mem_nil, or_false] at hq; rcases hq with rfl | rfl <;> exact ⟨rfl, by exact Nat.le_of_ble_eq_true rfl⟩) (by show List.foldl _ [_, _] _ = _; dsimp only [List.foldl_cons, List.foldl_nil, u2, u1] <;> rfl) (put_T rfl _) ?_;refine qh (s := 2) (vs := [_]) hH fun k39 st hk39 hH => ?_;refine qm ?_;refine qm ?_;refine qe hK ?_;have hH : Has N S2 st (.lst (.win k39 0 0 1 2) 2 (([((g.1 : Nat), (g.1 : Nat))] : List Rg).map rangeC) :: .box k (.mem 0 false (prsC gs plD { s with i := s.i + 1 })) :: .lst plD 1 (pls.map intC) :: H) := hH;have hfz := has_freezeR hH at0 (L := s0.bs.length) (n := 15) (fun k hk => by simp only [D.ref] at hk; rw [← hS2]; omega) (by decide)
   have hfz2 : freezeD st s0.bs.length true 16 (tupD [.win k39 0 0 1 2, .bool true]) = some (.tup [rangesV [(((g.1 : Nat) : Int), ((g.1 : Nat) : Int))], .bool true]) := by
    show (mapO (freezeD st s0.bs.length true 15) [.win k39 0 0 1 2, .bool true]).map D.tup = _;simp only [mapO, freeze_kn, hfz]; rfl
   refine EvC.ret ⟨rx, _, _, _, rfl, leaveD_rw hfz2, ⟨_, _, { s with i := s.i + 1 }, rfl, ⟨rfl, rfl, ?_, ?_, .inr (.inr ⟨he, ?_, _, hv, rfl, by simp, by simp⟩)⟩, hH0.leaveRw1 hS2 (hH.drop 1)⟩⟩
   ·show s.i ≤ s.i + 1; omega
   ·show s.i + 1 ≤ _; omega
   ·show s.i < s.i + 1; omega
def loF : List Rg → Int
 | [] => 0
 | q :: _ => q.1
noncomputable def itemF (gs : List (Nat × Nat)) (i : Nat) : PR (List Rg) :=
 match partF gs i with
 | .er e w => .er e w
 | .ok none _ => .er 4 i
 | .ok (some (a, one)) j =>
  if isS gs j 45 = true then
   if j + 1 < gs.length then
    match partF gs (j + 1) with
    | .er e w => .er e w
    | .ok none _ => .er 4 i
    | .ok (some (b, two)) l => if one = true ∧ two = true ∧ loF a ≤ loF b then .ok [(loF a, loF b)] l else .er 4 i
   else .er 4 i
  else .ok a j
def ItemX (gs : List (Nat × Nat)) (pls : List Int) (R : PR (List Rg)) (s s' : Prs) (d : D) : Prop :=
 s'.o = s.o ∧ s'.g = s.g ∧ s.i ≤ s'.i ∧ s'.i ≤ gs.length ∧ ∃ a : List Rg, d = rangesV a ∧ a.length ≤ 8 ∧ (ErrX R pls s' ∨ s'.e = 0 ∧ s.i < s'.i ∧ R = .ok a s'.i)
theorem itemX_ev {N k : Nat} {S s0 : St} {H : List Ent} {gs : List (Nat × Nat)} {plD : D} {pls : List Int} {s : Prs} (hok : PrsOk gs pls) (he : s.e = 0) (hi : s.i < gs.length) (hH : Has N S s0 (.box k (.mem 0 false (prsC gs plD s)) :: .lst plD 1 (pls.map intC) :: H)) :
  ∃ d st', Ev pv 131 [.ptr k 0 0] s0 d st' ∧ ∃ (s' : Prs), ItemX gs pls (itemF gs s.i) s s' d ∧ Has N S st' (.box k (.mem 0 false (prsC gs plD s')) :: .lst plD 1 (pls.map intC) :: H) := by
 have hgl := hok.gl;have hpl := hok.pl;refine Ev.mkE rfl fi131 rfl rfl rfl ?_;dsimp only [u3, u4, List.length, Nat.reduceSub, Nat.reduceAdd, w1, w2];have hH0 := hH;have hH := hH.enterRw;have hS2 : (enterSt .rw s0).bs = s0.bs := rfl;generalize enterSt .rw s0 = S2 at *;have hgr : Arg N S2 2 (gotsD gs) (gs.map gotC) := Arg.pure (fun st => gots_rows st gs)
 have hwr : ∀ (st : St) (s3 : Prs), s3.e = 0 → itemF gs s.i = .er 4 s.i → s3.o = s.o → s3.g = s.g → s.i ≤ s3.i → s3.i ≤ gs.length → Has N S2 st (.box k (.mem 0 false (prsC gs plD s3)) :: .lst plD 1 (pls.map intC) :: H) → ∃ d st', Ev pv 39 [.ptr k 0 0, .int .i64 (s.i : Nat), .int .i64 4] st d st' ∧ d = .sl [] ∧ ∃ s4 : Prs, s4.e ≠ 0 ∧ ItemX gs pls (itemF gs s.i) s s4 (.sl []) ∧ Has N S2 st' (.box k (.mem 0 false (prsC gs plD s4)) :: .lst plD 1 (pls.map intC) :: H) := by
  intro st s3 h1 hv h2 h3 h4 h5 hH;obtain ⟨d, st', hev, h6, hH⟩ := wrong_ev (s := s3) s.i 4 (by omega) hH;obtain ⟨w1, w2, w3, w4⟩ := wrong_x (pls := pls) (s := s3) (i := s.i) (e := 4) h1 (by decide) hv;exact ⟨d, st', hev, h6, _, w1.ne, ⟨w3.trans h2, w4.trans h3, by omega, by omega, [], rfl, by simp, .inl w1⟩, hH⟩
 have hv0 : itemF gs s.i = match partF gs s.i with
  | .er e w => .er e w
  | .ok none _ => .er 4 s.i
  | .ok (some (a, one)) j =>
   if isS gs j 45 = true then
    if j + 1 < gs.length then
     match partF gs (j + 1) with
     | .er e w => .er e w
     | .ok none _ => .er 4 s.i
     | .ok (some (b, two)) l => if one = true ∧ two = true ∧ loF a ≤ loF b then .ok [(loF a, loF b)] l else .er 4 s.i
    else .er 4 s.i
   else .ok a j := rfl
 refine qq ?_;refine qj fun K hK => ?_;refine qm ?_;refine qe hK ?_;refine qq ?_;refine qj fun K hK => ?_;refine qm ?_;refine qg ?_;refine qp (o := 2) ?_;refine ql hH at0 ?_;refine qm ?_;refine qe hK ?_;refine qq ?_;refine qj fun K hK => ?_;refine qm ?_;obtain ⟨_, st, hev, d1, b, s1, rfl, ⟨p1, p2, p3, p4, p5⟩, hH⟩ := partX_ev (s := s) hok he hi hH;refine qv hev ?_;refine qm ?_;refine qg ?_;refine qg ?_;refine qm ?_;refine qm ?_;refine qe hK ?_;refine qq ?_;refine qq ?_;refine qj fun K hK => ?_;refine qm ?_;refine qg ?_;refine qp (o := 5) ?_;refine ql hH at0 ?_;refine qg ?_;refine qe hK ?_
 rcases p5 with ⟨p5, rfl⟩ | ⟨e1, e2, rfl, rfl⟩ | ⟨p6, p7, a, e2, rfl, p8, p9⟩
 ·have hne := p5.ne;refine qD rfl (by simp [hne]) ?_;refine qq ?_;refine qj fun K hK => ?_;refine qm ?_;refine qe hK ?_;refine EvC.ret ⟨rx, _, _, _, rfl, leaveD_rw (rfl), ?_⟩;exact ⟨s1, ⟨p1, p2, p3, p4, [], rfl, by simp, .inl (p5.map fun e w h => by rw [hv0, h])⟩, hH0.leaveRw1 hS2 hH⟩
 ·rw [e2] at hv0;simp only at hv0;have e3 : s1.e = 0 := by rw [e1]; exact he
  refine qE rfl (by simp [e3]) ?_;refine EvC.skip ?_;refine qq ?_;refine qq ?_;refine qj fun K hK => ?_;refine qm ?_;refine EvO.go (d := .bool true) (st1 := _) rfl rfl rfl (put_T rfl _) ?_;refine qe hK ?_;refine qB ?_;refine qq ?_;refine qj fun K hK => ?_;refine qm ?_;refine qm ?_;obtain ⟨_, st, hev, rfl, s4, hne4, hX, hH⟩ := hwr _ s1 e3 hv0 p1 p2 p3 p4 hH;refine qv hev ?_;refine qe hK ?_;refine qq ?_;refine qj fun K hK => ?_;refine qm ?_;refine qe hK ?_;refine EvC.ret ⟨rx, _, _, _, rfl, leaveD_rw (rfl), ?_⟩;exact ⟨s4, hX, hH0.leaveRw1 hS2 hH⟩
 ·rw [e2] at hv0;simp only at hv0;obtain ⟨q, a', rfl⟩ : ∃ q a', a = q :: a' := List.exists_cons_of_ne_nil p9;refine qE rfl (by simp [p6]) ?_;refine EvC.skip ?_;refine qq ?_;refine qq ?_;refine qj fun K hK => ?_;refine qm ?_;refine EvO.go (d := .bool false) (st1 := _) rfl rfl rfl (put_T rfl _) ?_;refine qe hK ?_;refine qC ?_;refine EvC.skip ?_;obtain ⟨k1, k2, k3, k4, k5⟩ := skip_i (gs := gs) (s := s1) (r := 45);have k5 := k5 p4;refine qq ?_;refine qq ?_;refine qj fun K hK => ?_;refine qm ?_;obtain ⟨_, st, hev, rfl, hH⟩ := skip_ev (s := s1) (by omega) 45 hH;refine qv hev ?_;refine qg ?_;refine qe hK ?_;have hsk : isS gs s1.i 45 = true → (skipS gs s1 45).i = s1.i + 1 := fun h => by unfold skipS; rw [if_pos h]
  have hsn : isS gs s1.i 45 = false → (skipS gs s1 45).i = s1.i := fun h => by unfold skipS; rw [if_neg (by rw [h]; simp)]
  generalize skipS gs s1 45 = s2 at *
  cases hb : isS gs s1.i 45 with
  | false =>
   have hsn := hsn hb;rw [hb, if_neg (by simp), ← hsn] at hv0;refine qB ?_;refine qq ?_;refine qj fun K hK => ?_;refine qm ?_;refine qm ?_;refine qe hK ?_;refine EvC.ret ⟨rx, _, _, _, rfl, leaveD_rw (rfl), ?_⟩;exact ⟨s2, ⟨k1.trans p1, k2.trans p2, by omega, k5, q :: a', rfl, p8, .inr ⟨k3.trans p6, by omega, hv0⟩⟩, hH0.leaveRw1 hS2 hH⟩
  | true =>
   have hsk := hsk hb;rw [hb, if_pos rfl, ← hsk] at hv0;refine qC ?_;refine EvC.skip ?_;refine qq ?_;refine qj fun K hK => ?_;refine qm ?_;refine qe hK ?_;refine qq ?_;refine qj fun K hK => ?_;refine qm ?_;refine qe hK ?_;refine qq ?_;refine qq ?_;refine qj fun K hK => ?_;refine qm ?_;refine qg ?_;refine qp (o := 2) ?_;refine ql hH at0 ?_;refine qm ?_;refine qg ?_;refine qp (o := 0) ?_;refine ql hH at0 ?_;refine qn ?_;simp only [List.length_map];refine qg ?_;refine qe hK ?_;refine EvC.merge (fun fr st => ∃ (d2 : D) (two : Bool) (s3 : Prs) (tmp : List (Nat × D)), fr = ⟨8, [.ptr k 0 0, ixF_Td fr 1, ixF_Td fr 2, .int .i64 (s.i : Nat), rangesV (q :: a'), .bool b, d2, .bool two], tmp⟩ ∧ Has N S2 st (.box k (.mem 0 false (prsC gs plD s3)) :: .lst plD 1 (pls.map intC) :: H) ∧ (s3.o = s.o) ∧ (s3.g = s.g) ∧ (s2.i ≤ s3.i) ∧ (s3.i ≤ gs.length) ∧ (ErrX (itemF gs s.i) pls s3 ∨ s3.e = 0 ∧ (two = false ∧ itemF gs s.i = .er 4 s.i ∨ ∃ a2 : List Rg, d2 = rangesV a2 ∧ a2 ≠ [] ∧ itemF gs s.i = if b = true ∧ two = true ∧ loF (q :: a') ≤ loF a2 then .ok [(loF (q :: a'), loF a2)] s3.i else .er 4 s.i))) ?_ ?_
   ·refine EvC.cond (by rfl) (fun hlt => ?_) (fun hlt => ?_) <;> try simp only [decide_eq_true_eq, decide_eq_false_iff_not] at hlt
    ·have hlt2 : s2.i < gs.length := by omega
     rw [if_pos hlt2] at hv0;refine qj fun K hK => ?_;refine qm ?_;obtain ⟨_, st, hev, d2, two, s3, rfl, ⟨r1, r2, r3, r4, r5⟩, hH⟩ := partX_ev (s := s2) hok (k3.trans p6) (by omega) hH;refine qv hev ?_;refine qm ?_;refine qg ?_;refine qg ?_;refine qm ?_;refine qm ?_;refine qe hK ?_
     rcases r5 with ⟨r5, rfl⟩ | ⟨e4, e5, rfl, rfl⟩ | ⟨r6, r7, a2, e5, rfl, r8, r9⟩
     ·exact ⟨.nul, two, s3, _, rfl, hH, r1.trans (k1.trans p1), r2.trans (k2.trans p2), r3, r4, .inl (r5.map fun e w h => by rw [hv0, h])⟩
     ·rw [e5] at hv0;simp only at hv0;exact ⟨.nul, false, s3, _, rfl, hH, r1.trans (k1.trans p1), r2.trans (k2.trans p2), r3, r4, .inr ⟨by rw [e4]; exact k3.trans p6, .inl ⟨rfl, hv0⟩⟩⟩
     ·rw [e5] at hv0;simp only at hv0;exact ⟨rangesV a2, two, s3, _, rfl, hH, r1.trans (k1.trans p1), r2.trans (k2.trans p2), r3, r4, .inr ⟨r6, .inr ⟨a2, rfl, r9, hv0⟩⟩⟩
    ·rw [if_neg (by omega)] at hv0;refine EvC.skip ?_;exact ⟨.nul, false, s2, _, rfl, hH, k1.trans p1, k2.trans p2, Nat.le_refl _, k5, .inr ⟨k3.trans p6, .inl ⟨rfl, hv0⟩⟩⟩
   ·rintro fr st ⟨d2, two, s3, tmp, hfr, hH, h1, h2, h3, h4, h5⟩;rw [hfr];clear hfr;generalize ixF_Td fr = ee;clear fr
    rcases h5 with h5 | ⟨h5, h6⟩
    ·have hne := h5.ne;have hg5 : (s3.e == 0) = false := by simpa using hne
     refine qq ?_;refine qq ?_;refine qj fun K hK => ?_;refine qm ?_;refine qg ?_;refine qp (o := 5) ?_;refine ql hH at0 ?_;refine qg ?_;refine qm ?_;refine qs ?_ (hg := wn hg5);refine qs ?_ (hg := wn hg5);refine qs ?_ (hg := wn hg5);refine qs ?_;refine qs ?_;refine qs ?_ (hg := wn hg5);refine qs ?_ (hg := wn hg5);refine qs ?_;refine qs ?_;refine qs ?_;refine qs ?_;refine qs ?_;refine qs ?_;refine qs ?_;refine qs ?_;refine qs ?_;refine qs ?_ (hg := wn hg5);refine qu hg5 ?_;refine qe hK ?_;refine qC ?_;refine EvC.skip ?_;refine qq ?_;refine qq ?_;refine qj fun K hK => ?_;refine qm ?_;refine qg ?_;refine qp (o := 5) ?_;refine ql hH at0 ?_;refine qg ?_;refine qe hK ?_;refine qD rfl (by simp [hne]) ?_;refine qq ?_;refine qj fun K hK => ?_;refine qm ?_;refine qe hK ?_;refine EvC.ret ⟨rx, _, _, _, rfl, leaveD_rw (rfl), ?_⟩;exact ⟨s3, ⟨h1, h2, by omega, h4, [], rfl, by simp, .inl h5⟩, hH0.leaveRw1 hS2 hH⟩
    ·have hg5 : (s3.e == 0) = true := by simpa using h5
     cases b with
     | false =>
      have hv1 : itemF gs s.i = .er 4 s.i := by
       rcases h6 with ⟨_, h⟩ | ⟨a2, _, _, h⟩
       ·exact h
       ·rw [h, if_neg (by simp)]
      have hg8 : (!false) = true := rfl;refine qq ?_;refine qq ?_;refine qj fun K hK => ?_;refine qm ?_;refine qg ?_;refine qp (o := 5) ?_;refine ql hH at0 ?_;refine qg ?_;refine qm ?_;refine qm ?_ (hg := wi hg5);refine qg ?_ (hg := wi hg5);refine qm ?_ (hg := wi hg5);refine qs ?_ (hg := wn hg8);refine qs ?_ (hg := wn hg8);refine EvO.pickT (wantD_is rfl rfl rfl hg5) rfl hg8 (put_T rfl _) ?_;refine qm ?_ (hg := wi hg5);refine qs ?_;refine qs ?_;refine qs ?_;refine qs ?_;refine qs ?_;refine qs ?_;refine qs ?_;refine qs ?_;refine qs ?_;refine qg ?_ (hg := wi hg5);refine qt hg5 ?_;refine qe hK ?_;refine qB ?_;refine qj fun K hK => ?_;refine qm ?_;refine qm ?_;obtain ⟨_, st, hev, rfl, s4, w1, hX, hH⟩ := hwr _ s3 h5 hv1 h1 h2 (by omega) h4 hH;refine qv hev ?_;refine qe hK ?_;refine qq ?_;refine qq ?_;refine qj fun K hK => ?_;refine qm ?_;refine qg ?_;refine qp (o := 5) ?_;refine ql hH at0 ?_;refine qg ?_;refine qe hK ?_;refine qD rfl (by simp [w1]) ?_;refine qq ?_;refine qj fun K hK => ?_;refine qm ?_;refine qe hK ?_;refine EvC.ret ⟨rx, _, _, _, rfl, leaveD_rw (rfl), ?_⟩;exact ⟨s4, hX, hH0.leaveRw1 hS2 hH⟩
     | true =>
      have hg8 : (!true) = false := rfl
      cases two with
      | false =>
       have hv1 : itemF gs s.i = .er 4 s.i := by
        rcases h6 with ⟨_, h⟩ | ⟨a2, _, _, h⟩
        ·exact h
        ·rw [h, if_neg (by simp)]
       have hg12 : (!false) = true := rfl;refine qq ?_;refine qq ?_;refine qj fun K hK => ?_;refine qm ?_;refine qg ?_;refine qp (o := 5) ?_;refine ql hH at0 ?_;refine qg ?_;refine qm ?_;refine qm ?_ (hg := wi hg5);refine qg ?_ (hg := wi hg5);refine qm ?_ (hg := wi hg5);refine qm ?_ (hg := wi hg8);refine qg ?_ (hg := wi hg8);refine EvO.pickF (wantD_is rfl rfl rfl hg5) rfl hg8 (put_T rfl _) ?_;refine qm ?_ (hg := wi hg5);refine qs ?_ (hg := wn hg12);refine qs ?_ (hg := wn hg12);refine qs ?_ (hg := wn hg12);refine qs ?_ (hg := wn hg12);refine qs ?_ (hg := wn hg12);refine qs ?_ (hg := wn hg12);refine qs ?_ (hg := wn hg12);refine qs ?_ (hg := wn hg12);refine qs ?_ (hg := wn hg12);refine EvO.pickT (wantD_is rfl rfl rfl hg5) rfl hg12 (put_T rfl _) ?_;refine qt hg5 ?_;refine qe hK ?_;refine qB ?_;refine qj fun K hK => ?_;refine qm ?_;refine qm ?_;obtain ⟨_, st, hev, rfl, s4, w1, hX, hH⟩ := hwr _ s3 h5 hv1 h1 h2 (by omega) h4 hH;refine qv hev ?_;refine qe hK ?_;refine qq ?_;refine qq ?_;refine qj fun K hK => ?_;refine qm ?_;refine qg ?_;refine qp (o := 5) ?_;refine ql hH at0 ?_;refine qg ?_;refine qe hK ?_;refine qD rfl (by simp [w1]) ?_;refine qq ?_;refine qj fun K hK => ?_;refine qm ?_;refine qe hK ?_;refine EvC.ret ⟨rx, _, _, _, rfl, leaveD_rw (rfl), ?_⟩;exact ⟨s4, hX, hH0.leaveRw1 hS2 hH⟩
      | true =>
       have hg12 : (!true) = false := rfl
       obtain ⟨a2, rfl, h7, hv1⟩ : ∃ a2 : List Rg, d2 = rangesV a2 ∧ a2 ≠ [] ∧ itemF gs s.i = if true = true ∧ true = true ∧ loF (q :: a') ≤ loF a2 then .ok [(loF (q :: a'), loF a2)] s3.i else .er 4 s.i := by
        rcases h6 with h6 | h6
        ·cases h6.1
        ·exact h6
       obtain ⟨q2, a2', rfl⟩ : ∃ q a', a2 = q :: a' := List.exists_cons_of_ne_nil h7
       have hv1 : itemF gs s.i = if q.1 ≤ q2.1 then .ok [(q.1, q2.1)] s3.i else .er 4 s.i := by
        rw [hv1]; simp [loF]
       have hra := (ranges_sl (q :: a')).arg N S2;have hra2 := (ranges_sl (q2 :: a2')).arg N S2;have hr0 : ((q :: a').map rangeC)[0]? = some (rangeC q) := rfl;have hr1 : ((q2 :: a2').map rangeC)[0]? = some (rangeC q2) := rfl;refine qq ?_;refine qq ?_;refine qj fun K hK => ?_;refine qm ?_;refine qg ?_;refine qp (o := 5) ?_;refine ql hH at0 ?_;refine qg ?_;refine qm ?_;refine qm ?_ (hg := wi hg5);refine qg ?_ (hg := wi hg5);refine qm ?_ (hg := wi hg5);refine qm ?_ (hg := wi hg8);refine qg ?_ (hg := wi hg8);refine EvO.pickF (wantD_is rfl rfl rfl hg5) rfl hg8 (put_T rfl _) ?_;refine qm ?_ (hg := wi hg5);refine qm ?_ (hg := wi hg12);refine qr (fun p60 hp60 => ?_) (hg := wi hg12);refine qf (fo := 0) (fun p61 hp61 => ?_) (hg := wi hg12);refine qR ?_ (hg := wi hg12);refine qm ?_ (hg := wi hg12);refine qr (fun p64 hp64 => ?_) (hg := wi hg12);refine qf (fo := 0) (fun p65 hp65 => ?_) (hg := wi hg12);refine qR ?_ (hg := wi hg12);refine qg ?_ (hg := wi hg12);refine EvO.pickF (wantD_is rfl rfl rfl hg5) rfl hg12 (put_T rfl _) ?_;refine qt hg5 ?_;refine qe hK ?_;refine EvC.cond (by rfl) (fun hgt => ?_) (fun hgt => ?_) <;> try simp only [decide_eq_true_eq, decide_eq_false_iff_not] at hgt
       ·rw [if_neg (by omega)] at hv1;refine qj fun K hK => ?_;refine qm ?_;refine qm ?_;obtain ⟨_, st, hev, rfl, s4, w1, hX, hH⟩ := hwr _ s3 h5 hv1 h1 h2 (by omega) h4 hH;refine qv hev ?_;refine qe hK ?_;refine qq ?_;refine qq ?_;refine qj fun K hK => ?_;refine qm ?_;refine qg ?_;refine qp (o := 5) ?_;refine ql hH at0 ?_;refine qg ?_;refine qe hK ?_;refine qD rfl (by simp [w1]) ?_;refine qq ?_;refine qj fun K hK => ?_;refine qm ?_;refine qe hK ?_;refine EvC.ret ⟨rx, _, _, _, rfl, leaveD_rw (rfl), ?_⟩;exact ⟨s4, hX, hH0.leaveRw1 hS2 hH⟩
       ·rw [if_pos (by omega)] at hv1;refine EvC.skip ?_;refine qq ?_;refine qq ?_;refine qj fun K hK => ?_;refine qm ?_;refine qg ?_;refine qp (o := 5) ?_;refine ql hH at0 ?_;refine qg ?_;refine qe hK ?_;refine qE rfl (by simp [h5]) ?_;refine EvC.skip ?_;refine qq ?_;refine qj fun K hK => ?_;refine qm ?_;refine qr fun p79 hp79 => ?_;refine qf (fo := 0) fun p80 hp80 => ?_;refine qR ?_;refine qm ?_;refine qr fun p83 hp83 => ?_;refine qf (fo := 0) fun p84 hp84 => ?_;refine qR ?_;refine EvO.ones (qs := [(0, _), (1, _)]) rfl rfl rfl rfl ⟨rfl, (ev rfl), (by rfl), rfl, (ev rfl), (by rfl), trivial⟩ (by intro q hq; simp only [List.mem_cons, List.not_mem_nil, or_false] at hq; rcases hq with rfl | rfl <;> exact ⟨rfl, by exact Nat.le_of_ble_eq_true rfl⟩) (by show List.foldl _ [_, _] _ = _; dsimp only [List.foldl_cons, List.foldl_nil, u2, u1] <;> rfl) (put_T rfl _) ?_;refine qh (s := 2) (vs := [_]) hH fun k87 st hk87 hH => ?_;dsimp only [u2, u1, u3, u4, setMany, u5, u6, D.cells, Nat.reduceAdd, prsC, gotC, intC, rangeC] at hH;refine qm ?_;refine qe hK ?_;have hH : Has N S2 st (.lst (.win k87 0 0 1 2) 2 (([(q.1, q2.1)] : List Rg).map rangeC) :: .box k (.mem 0 false (prsC gs plD s3)) :: .lst plD 1 (pls.map intC) :: H) := hH;have hfz := has_freezeR hH at0 (L := s0.bs.length) (n := 16) (fun k hk => by simp only [D.ref] at hk; rw [← hS2]; omega) (by decide);refine EvC.ret ⟨rx, _, _, _, rfl, leaveD_rw hfz, ⟨s3, ⟨h1, h2, by omega, h4, [(q.1, q2.1)], rfl, by simp, .inr ⟨h5, by omega, hv1⟩⟩, hH0.leaveRw1 hS2 (hH.drop 1)⟩⟩
end Go.Proofs.Ytnleclohocdkaaa
