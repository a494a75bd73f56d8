/- own -/
import Derived.Test.YtnleclohocdkaaaTGTe
import Derived.Test.YtnleclohocdkaaaTGCa
import Derived.Test.YtnleclohocdkaaaTGHr
import Derived.Test.YtnleclohocdkaaaTGM3
import Derived.Test.YtnleclohocdkaaaTGKb
set_option maxRecDepth 100000
set_option maxHeartbeats 4000000
set_option linter.unusedSimpArgs false
set_option linter.unusedVariables false
namespace Go.Proofs.Ytnleclohocdkaaa
open Go.V Go
structure Emb (gs gs' : List (Nat × Nat)) (p : Nat) : Prop where
  el : ∀ i,i < gs.length -> gs'[i + p]? = gs[i]?
  en : gs'[gs.length + p]? = some (41,1)
theorem Emb.len {gs gs' : List (Nat × Nat)} {p : Nat} (h : Emb gs gs' p) : gs.length + p < gs'.length := lt_get h.en
theorem isS_ge {gs : List (Nat × Nat)} {i : Nat} {r : Int} (h : gs.length <= i) : isS gs i r = false := by
  unfold isS; rw [List.getElem?_eq_none h]
theorem Emb.is {gs gs' : List (Nat × Nat)} {p : Nat} (h : Emb gs gs' p) {i : Nat} {r : Int} (hr : r ≠ 41) (hi : i <= gs.length) : isS gs' (i + p) r = isS gs i r := by
  rcases Nat.lt_or_ge i gs.length with h1 | h1
  · unfold isS; rw [h.el i h1]
  · obtain rfl : i = gs.length := by omega
    rw [isS_ge (Nat.le_refl _)]
    unfold isS; rw [h.en]; simp only [beq_eq_false_iff_ne]
    exact fun h2 => hr h2.symm
theorem Emb.is1 {gs gs' : List (Nat × Nat)} {p : Nat} (h : Emb gs gs' p) {i : Nat} {r : Int} (hi : i < gs.length) : isS gs' (i + p) r = isS gs i r := by
  unfold isS; rw [h.el i hi]
theorem Emb.bad {gs gs' : List (Nat × Nat)} {p : Nat} (h : Emb gs gs' p) {i : Nat} (hi : i < gs.length) : badS gs' (i + p) = badS gs i := by
  unfold badS; rw [h.el i hi]
def OkE {α : Type} (gs : List (Nat × Nat)) (p : Nat) (R R' : PR α) : Prop := ∀ v j,R = .ok v j -> (R' = .ok v (j + p) \/ ∃ w,R' = .er 10 w) /\ j <= gs.length
def OkS {α : Type} (gs : List (Nat × Nat)) (p : Nat) (R R' : PR α) : Prop := ∀ v j,R = .ok v j -> R' = .ok v (j + p) /\ j <= gs.length
theorem OkS.e {α : Type} {gs : List (Nat × Nat)} {p : Nat} {R R' : PR α} (h : OkS gs p R R') : OkE gs p R R' := fun v j e => ⟨.inl (h v j e).1,(h v j e).2⟩
theorem sign_emb {gs gs' : List (Nat × Nat)} {p : Nat} (h : Emb gs gs' p) (f : Nat) : OkS gs p (signF gs f) (signF gs' (f + p)) := by
  intro v j e
  have hx : f + p + 1 = f + 1 + p := by omega
  have hy : f + p + 2 = f + 2 + p := by omega
  unfold signF at e ⊢
  cases hg : gs[f + 1]? with
  | none => rw [hg] at e; cases e
  | some g =>
    have hlt := lt_get hg
    rw [hg] at e
    rw [hx,hy,h.el _ hlt,hg]
    simp only at e ⊢
    rw [h.bad hlt]
    generalize (((g.1 : Nat) : Int)) = r at *
    repeat' (split at e)
    all_goals first
      | (cases e; done)
      | (cases e; exact ⟨by simp [*],by omega⟩)
theorem part_emb {gs gs' : List (Nat × Nat)} {p : Nat} (h : Emb gs gs' p) (i : Nat) : OkS gs p (partF gs i) (partF gs' (i + p)) := by
  intro v j e
  have hx : i + p + 1 = i + 1 + p := by omega
  unfold partF at e ⊢
  cases hg : gs[i]? with
  | none => rw [hg] at e; cases e
  | some g =>
    have hlt := lt_get hg
    rw [hg] at e
    rw [h.el _ hlt,hg]
    simp only at e ⊢
    rw [h.bad hlt]
    by_cases h1 : badS gs i = true
    · rw [if_pos h1] at e; cases e
    rw [if_neg h1] at e ⊢
    by_cases h2 : ((g.1 : Nat) : Int) = 92
    · rw [if_pos h2] at e ⊢
      cases hs : signF gs i with
      | er a b => rw [hs] at e; cases e
      | ok q k =>
        obtain ⟨h3,h4⟩ := sign_emb h i _ _ hs
        obtain ⟨a,b⟩ := q
        rw [hs] at e; cases e
        rw [h3]
        exact ⟨rfl,h4⟩
    rw [if_neg h2] at e ⊢
    by_cases h3 : ((g.1 : Nat) : Int) = 91 \/ ((g.1 : Nat) : Int) = 93 \/ ((g.1 : Nat) : Int) = 45
    · rw [if_pos h3] at e ⊢; cases e; exact ⟨rfl,by omega⟩
    · rw [if_neg h3] at e ⊢; cases e; exact ⟨by rw [hx],by omega⟩
theorem item_emb {gs gs' : List (Nat × Nat)} {p : Nat} (h : Emb gs gs' p) (i : Nat) : OkS gs p (itemF gs i) (itemF gs' (i + p)) := by
  intro v j e
  have hlen := h.len
  unfold itemF at e ⊢
  cases hp : partF gs i with
  | er a b => rw [hp] at e; cases e
  | ok q k =>
    obtain ⟨h1,h2⟩ := part_emb h i _ _ hp
    rw [hp] at e
    rw [h1]
    cases q with
    | none => cases e
    | some q =>
      obtain ⟨a,one⟩ := q
      simp only at e ⊢
      rw [h.is (by decide) h2]
      by_cases h3 : isS gs k 45 = true
      · rw [if_pos h3] at e ⊢
        by_cases h4 : k + 1 < gs.length
        · rw [if_pos h4] at e
          rw [if_pos (by omega)]
          have hx : k + p + 1 = k + 1 + p := by omega
          rw [hx]
          cases hp2 : partF gs (k + 1) with
          | er a b => rw [hp2] at e; cases e
          | ok q2 k2 =>
            obtain ⟨h5,h6⟩ := part_emb h _ _ _ hp2
            rw [hp2] at e
            rw [h5]
            cases q2 with
            | none => cases e
            | some q2 =>
              obtain ⟨b,two⟩ := q2
              simp only at e ⊢
              split at e
              · rename_i h7; cases e; rw [if_pos h7]; exact ⟨rfl,h6⟩
              · cases e
        · rw [if_neg h4] at e; cases e
      · rw [if_neg h3] at e ⊢; cases e; exact ⟨rfl,h2⟩
theorem classL_emb {gs gs' : List (Nat × Nat)} {p : Nat} (h : Emb gs gs' p) {f f' : Nat} : ∀ n n' i l nn v j,n <= n' -> classL gs f n i l nn = .ok v j -> classL gs' f' n' (i + p) l nn = .ok v (j + p) /\ j < gs.length
  | 0,_,_,_,_,_,_,_,e => by cases e
  | n + 1,n',i,l,nn,v,j,hn,e => by
    obtain ⟨n',rfl⟩ : ∃ m,n' = m + 1 := ⟨n' - 1,by omega⟩
    have hlen := h.len
    unfold classL at e ⊢
    by_cases h1 : isS gs i 93 = true
    · have hlt := isS_lt h1
      rw [if_pos h1] at e
      rw [h.is1 hlt,if_pos h1]
      split at e
      · cases e
      · rename_i h2; cases e; rw [if_neg h2]; exact ⟨rfl,hlt⟩
    · rw [if_neg h1] at e
      by_cases h2 : gs.length <= i
      · rw [if_pos h2] at e; cases e
      · rw [if_neg h2] at e
        rw [h.is1 (by omega),if_neg h1,if_neg (by omega)]
        cases hi : itemF gs i with
        | er a b => rw [hi] at e; cases e
        | ok a k =>
          obtain ⟨h3,h4⟩ := item_emb h i _ _ hi
          rw [hi] at e
          rw [h3]
          exact classL_emb h n n' k _ _ v j (by omega) e
theorem class_emb {gs gs' : List (Nat × Nat)} {p : Nat} (h : Emb gs gs' p) {i : Nat} (hi : i < gs.length) : OkS gs p (classF gs i) (classF gs' (i + p)) := by
  intro v j e
  have hlen := h.len
  unfold classF at e ⊢
  have hx : i + p + 1 = i + 1 + p := by omega
  have hy : i + p + 2 = i + 2 + p := by omega
  rw [hx,hy,h.is (by decide) (by omega)]
  have hz : (if isS gs (i + 1) 94 = true then i + 2 + p else i + 1 + p) = (if isS gs (i + 1) 94 = true then i + 2 else i + 1) + p := by split <;> rfl
  rw [hz]
  cases hc : classL gs i (gs.length + 1) (if isS gs (i + 1) 94 = true then i + 2 else i + 1) [] true with
  | er a b => rw [hc] at e; cases e
  | ok l k =>
    obtain ⟨h3,h4⟩ := classL_emb h (f' := i + p) _ (gs'.length + 1) _ _ _ _ _ (by omega) hc
    rw [hc] at e
    rw [h3]
    simp only at e ⊢
    cases e
    exact ⟨by rw [show k + p + 1 = k + 1 + p by omega],by omega⟩
theorem clsR_emb {gs gs' : List (Nat × Nat)} {p : Nat} (h : Emb gs gs' p) {i : Nat} (hi : i < gs.length) (g : Nat) : OkS gs p (clsR gs i g) (clsR gs' (i + p) g) := by
  intro v j e
  unfold clsR at e ⊢
  cases hc : classF gs i with
  | er a b => rw [hc] at e; cases e
  | ok a k =>
    obtain ⟨h3,h4⟩ := class_emb h hi _ _ hc
    rw [hc] at e
    rw [h3]
    cases e
    exact ⟨rfl,h4⟩
theorem digS_end : ∀ (l r : List Int) (acc : List UInt8),digS (l ++ 41 :: r) acc = digS l acc
  | [],r,acc => by
    rw [List.nil_append]; unfold digS
    rw [if_neg (by omega)]
  | x :: l,r,acc => by
    rw [List.cons_append]; unfold digS
    simp only [digS_end l r]
theorem rsF_emb {gs gs' : List (Nat × Nat)} {p : Nat} (h : Emb gs gs' p) {i : Nat} (hi : i <= gs.length) : ∃ r,rsF gs' (i + p) = rsF gs i ++ 41 :: r := by
  have hlen := h.len
  refine ⟨rsF gs' (gs.length + 1 + p),?_⟩
  unfold rsF
  apply List.ext_getElem?
  intro k
  rw [List.getElem?_drop,List.getElem?_map]
  rcases Nat.lt_or_ge (i + k) gs.length with h1 | h1
  · rw [List.getElem?_append_left (by simp; omega),List.getElem?_drop,List.getElem?_map,show i + p + k = i + k + p by omega,h.el _ h1]
  · rw [List.getElem?_append_right (by simp; omega)]
    simp only [List.length_drop,List.length_map]
    rcases Nat.lt_or_ge gs.length (i + k) with h2 | h2
    · obtain ⟨q,hq⟩ : ∃ q,k - (gs.length - i) = q + 1 := ⟨k - (gs.length - i) - 1,by omega⟩
      rw [hq,List.getElem?_cons_succ,List.getElem?_drop,List.getElem?_map]
      congr 2; omega
    · have : k - (gs.length - i) = 0 := by omega
      rw [this,List.getElem?_cons_zero,show i + p + k = gs.length + p by omega,h.en]; rfl
theorem dig_emb {gs gs' : List (Nat × Nat)} {p : Nat} (h : Emb gs gs' p) {i : Nat} (hi : i <= gs.length) : digS (rsF gs' (i + p)) [] = digS (rsF gs i) [] /\ i + (digS (rsF gs i) []).2 <= gs.length := by
  obtain ⟨r,hr⟩ := rsF_emb h hi
  refine ⟨by rw [hr,digS_end],?_⟩
  have := (digS_len (rsF gs i) []).1
  have h2 : (rsF gs i).length = gs.length - i := by unfold rsF; simp
  have h3 := digS_len (rsF gs i) []
  omega
def shP {α : Type} (p : Nat) : PR α -> PR α
  | .ok v j => .ok v (j + p)
  | .er e w => .er e (w + p)
theorem often_emb {gs gs' : List (Nat × Nat)} {p : Nat} (h : Emb gs gs' p) {f : Nat} (hf : f < gs.length) : OkS gs p (oftenF gs f) (oftenF gs' (f + p)) := by
  obtain ⟨d1,d2⟩ := dig_emb h (i := f + 1) (by omega)
  intro v j e
  have key : oftenF gs' (f + p) = shP p (oftenF gs f) := by
    unfold oftenF
    rw [show f + p + 1 = f + 1 + p by omega,d1]
    generalize hA : digS (rsF gs (f + 1)) [] = A at *
    rw [show f + 1 + p + A.2 = f + 1 + A.2 + p by omega,h.is (by decide) d2,h.is (by decide) d2]
    by_cases h0 : A.2 = 0
    · simp only [h0,if_true]; rfl
    simp only [h0,if_false]
    by_cases h1 : isS gs (f + 1 + A.2) 44 = true
    · have hlt := isS_lt h1
      obtain ⟨d3,d4⟩ := dig_emb h (i := f + 1 + A.2 + 1) (by omega)
      simp only [h1,if_true]
      rw [show f + 1 + A.2 + p + 1 = f + 1 + A.2 + 1 + p by omega,d3]
      generalize hB : digS (rsF gs (f + 1 + A.2 + 1)) [] = B at *
      rw [show f + 1 + A.2 + 1 + p + B.2 = f + 1 + A.2 + 1 + B.2 + p by omega,h.is (by decide) d4]
      simp only [apply_ite (shP p)]
      simp only [shP]
      rw [show f + 1 + A.2 + 1 + B.2 + p + 1 = f + 1 + A.2 + 1 + B.2 + 1 + p by omega]
    · simp only [h1,if_false]
      simp only [apply_ite (shP p)]
      simp only [shP]
      rw [show f + 1 + A.2 + p + 1 = f + 1 + A.2 + 1 + p by omega]
      rfl
  rw [key,e]
  refine ⟨rfl,?_⟩
  unfold oftenF at e
  generalize hA : digS (rsF gs (f + 1)) [] = A at *
  generalize hB : digS (rsF gs (f + 1 + A.2 + 1)) [] = B at *
  split at e
  · cases e
  split at e
  · split at e
    · rename_i h5
      have hlt := isS_lt h5
      repeat' (split at e)
      all_goals first | (cases e; omega) | (cases e; done)
    · cases e
  · split at e
    · rename_i h5
      have hlt := isS_lt h5
      repeat' (split at e)
      all_goals first | (cases e; omega) | (cases e; done)
    · cases e
def PFe (gs gs' : List (Nat × Nat)) (p : Nat) (A A' : PF) : Prop := ∀ i g,i <= gs.length -> OkE gs p (A i g) (A' (i + p) g)
theorem groupB_emb {gs gs' : List (Nat × Nat)} {p : Nat} (h : Emb gs gs' p) {A A' : PF} (hA : PFe gs gs' p A A') {m m' i g : Nat} {free : Bool} {j : Nat} (hj : j <= gs.length) : OkE gs p (groupB A gs m i g free j) (groupB A' gs' m' (i + p) g free (j + p)) := by
  intro v k e
  unfold groupB at e ⊢
  by_cases h1 : m = 0
  · rw [if_pos h1] at e; cases e
  rw [if_neg h1] at e
  by_cases h2 : free = false /\ 4 <= g
  · rw [if_pos h2] at e; cases e
  rw [if_neg h2] at e
  cases ha : A j (if free = true then g else g + 1) with
  | er a b => rw [ha] at e; cases e
  | ok q k2 =>
    obtain ⟨h3,h4⟩ := hA j _ hj _ _ ha
    obtain ⟨l,g2⟩ := q
    rw [ha] at e
    simp only at e
    split at e
    · rename_i h5
      have hlt := isS_lt h5
      cases e
      refine ⟨?_,by omega⟩
      by_cases h6 : m' = 0
      · exact .inr ⟨_,by rw [if_pos h6]⟩
      rw [if_neg h6,if_neg h2]
      rcases h3 with h3 | ⟨w,h3⟩
      · rw [h3]; simp only
        rw [h.is1 hlt,if_pos h5]
        exact .inl (by rw [show k2 + p + 1 = k2 + 1 + p by omega])
      · rw [h3]; exact .inr ⟨w,rfl⟩
    · cases e
theorem group_emb {gs gs' : List (Nat × Nat)} {p : Nat} (h : Emb gs gs' p) {A A' : PF} (hA : PFe gs gs' p A A') {m m' i g : Nat} (hi : i < gs.length) : OkE gs p (groupF A gs m i g) (groupF A' gs' m' (i + p) g) := by
  intro v k e
  unfold groupF at e ⊢
  rw [show i + p + 1 = i + 1 + p by omega,h.is (by decide) (by omega)]
  by_cases h1 : isS gs (i + 1) 63 = true
  · have hlt := isS_lt h1
    rw [if_pos h1] at e ⊢
    rw [show i + p + 2 = i + 2 + p by omega,h.is (by decide) (by omega)]
    by_cases h2 : isS gs (i + 2) 58 = true
    · have hlt2 := isS_lt h2
      rw [if_pos h2] at e ⊢
      rw [show i + p + 3 = i + 3 + p by omega]
      exact groupB_emb h hA (by omega) v k e
    · rw [if_neg h2] at e; cases e
  · rw [if_neg h1] at e ⊢
    exact groupB_emb h hA (by omega) v k e
theorem atom_emb {gs gs' : List (Nat × Nat)} {p : Nat} (h : Emb gs gs' p) {A A' : PF} (hA : PFe gs gs' p A A') {m m' i g : Nat} : OkE gs p (atomF A gs m i g) (atomF A' gs' m' (i + p) g) := by
  intro v k e
  unfold atomF at e ⊢
  cases hg : gs[i]? with
  | none => rw [hg] at e; cases e
  | some q =>
    have hlt := lt_get hg
    rw [hg] at e
    rw [h.el _ hlt,hg]
    simp only at e ⊢
    rw [h.bad hlt]
    by_cases h1 : badS gs i = true
    · rw [if_pos h1] at e; cases e
    rw [if_neg h1] at e ⊢
    unfold atomG at e ⊢
    rw [show i + p + 1 = i + 1 + p by omega]
    split at e
    · rename_i h2; rw [if_pos h2]; exact group_emb h hA hlt v k e
    rename_i h2; rw [if_neg h2]
    split at e
    · rename_i h3; rw [if_pos h3]; exact (clsR_emb h hlt g).e v k e
    rename_i h3; rw [if_neg h3]
    split at e
    · rename_i h4; rw [if_pos h4]
      cases hs : signF gs i with
      | er a b => rw [hs] at e; cases e
      | ok q2 k2 =>
        obtain ⟨h5,h6⟩ := sign_emb h i _ _ hs
        obtain ⟨a,b⟩ := q2
        rw [hs] at e
        cases e
        rw [h5]
        exact ⟨.inl rfl,h6⟩
    rename_i h4; rw [if_neg h4]
    split at e
    · rename_i h5; rw [if_pos h5]; cases e; exact ⟨.inl rfl,by omega⟩
    rename_i h5; rw [if_neg h5]
    split at e
    · rename_i h6; rw [if_pos h6]; cases e; exact ⟨.inl rfl,by omega⟩
    rename_i h6; rw [if_neg h6]
    split at e
    · rename_i h7; rw [if_pos h7]; cases e; exact ⟨.inl rfl,by omega⟩
    rename_i h7; rw [if_neg h7]
    split at e
    · cases e
    rename_i h8; rw [if_neg h8]; cases e; exact ⟨.inl rfl,by omega⟩
theorem repB_emb {gs gs' : List (Nat × Nat)} {p : Nat} (h : Emb gs gs' p) {l : List Nod} {g : Nat} {mn mx : Int} {j : Nat} (hj : j <= gs.length) : OkS gs p (repB gs l g mn mx j) (repB gs' l g mn mx (j + p)) := by
  intro v k e
  unfold repB at e ⊢
  rw [h.is (by decide) hj]
  by_cases h1 : isS gs j 63 = true
  · have hlt := isS_lt h1
    rw [if_pos h1] at e ⊢; cases e; exact ⟨by rw [show j + p + 1 = j + 1 + p by omega],by omega⟩
  · rw [if_neg h1] at e ⊢; cases e; exact ⟨rfl,hj⟩
theorem repG_emb {gs gs' : List (Nat × Nat)} {p : Nat} (h : Emb gs gs' p) {l : List Nod} {g j : Nat} (hj : j <= gs.length) : OkS gs p (repG gs l g j) (repG gs' l g (j + p)) := by
  intro v k e
  unfold repG at e ⊢
  rw [h.is (by decide) hj,h.is (by decide) hj,h.is (by decide) hj,h.is (by decide) hj,show j + p + 1 = j + 1 + p by omega]
  split at e
  · rename_i h1; have := isS_lt h1; rw [if_pos h1]; exact repB_emb h (by omega) v k e
  rename_i h1; rw [if_neg h1]
  split at e
  · rename_i h1; have := isS_lt h1; rw [if_pos h1]; exact repB_emb h (by omega) v k e
  rename_i h1; rw [if_neg h1]
  split at e
  · rename_i h1; have := isS_lt h1; rw [if_pos h1]; exact repB_emb h (by omega) v k e
  rename_i h1; rw [if_neg h1]
  split at e
  · rename_i h1
    have hlt := isS_lt h1
    rw [if_pos h1]
    cases ho : oftenF gs j with
    | er a b => rw [ho] at e; cases e
    | ok q k2 =>
      obtain ⟨h5,h6⟩ := often_emb h hlt _ _ ho
      obtain ⟨a,b⟩ := q
      rw [ho] at e
      rw [h5]
      exact repB_emb h h6 v k e
  · rename_i h1; rw [if_neg h1]; cases e; exact ⟨rfl,hj⟩
theorem rep_emb {gs gs' : List (Nat × Nat)} {p : Nat} (h : Emb gs gs' p) {A A' : PF} (hA : PFe gs gs' p A A') {m m' i g : Nat} : OkE gs p (repF A gs m i g) (repF A' gs' m' (i + p) g) := by
  intro v k e
  unfold repF at e ⊢
  cases ha : atomF A gs m i g with
  | er a b => rw [ha] at e; cases e
  | ok q k2 =>
    obtain ⟨h1,h2⟩ := atom_emb h hA (m' := m') _ _ ha
    obtain ⟨l,g1⟩ := q
    rw [ha] at e
    rcases h1 with h1 | ⟨w,h1⟩
    · rw [h1]; exact (repG_emb h h2).e v k e
    · rw [h1]
      refine ⟨.inr ⟨w,rfl⟩,(repG_emb h h2 v k e).2⟩
theorem sign_adv {gs : List (Nat × Nat)} {f : Nat} {v} {j : Nat} (e : signF gs f = .ok v j) : f < j := by
  unfold signF at e
  split at e
  · cases e
  · repeat' (split at e)
    all_goals first | (cases e; done) | (cases e; omega)
theorem part_adv {gs : List (Nat × Nat)} {i : Nat} {v} {j : Nat} (e : partF gs i = .ok (some v) j) : i < j := by
  unfold partF at e
  split at e
  · cases e
  · split at e
    · cases e
    · split at e
      · split at e
        · rename_i hs; cases e; exact sign_adv hs
        · cases e
      · split at e
        · cases e
        · cases e; omega
theorem item_adv {gs : List (Nat × Nat)} {i : Nat} {v} {j : Nat} (e : itemF gs i = .ok v j) : i < j := by
  unfold itemF at e
  split at e
  · cases e
  · cases e
  · rename_i h1
    have h1' := part_adv h1
    clear h1
    split at e
    · split at e
      · split at e
        · cases e
        · cases e
        · rename_i h2
          have h2' := part_adv h2
          clear h2
          split at e
          · cases e; omega
          · cases e
      · cases e
    · cases e; exact h1'
theorem classL_adv {gs : List (Nat × Nat)} {f : Nat} : ∀ n i l nn v j,classL gs f n i l nn = .ok v j -> i <= j
  | 0,_,_,_,_,_,e => by cases e
  | n + 1,i,l,nn,v,j,e => by
    unfold classL at e
    split at e
    · split at e
      · cases e
      · cases e; omega
    · split at e
      · cases e
      · split at e
        · cases e
        · rename_i h1
          have := item_adv h1
          have := classL_adv _ _ _ _ _ _ e
          omega
theorem clsR_adv {gs : List (Nat × Nat)} {i g : Nat} {v} {j : Nat} (e : clsR gs i g = .ok v j) : i < j := by
  unfold clsR classF at e
  split at e
  · cases e
  · rename_i h1
    split at h1
    · cases h1
    · rename_i h2
      have := classL_adv _ _ _ _ _ _ h2
      cases h1; cases e
      split at this <;> omega
theorem often_adv {gs : List (Nat × Nat)} {f : Nat} {v} {j : Nat} (e : oftenF gs f = .ok v j) : f < j := by
  unfold oftenF at e
  repeat' (split at e)
  all_goals first | (cases e; done) | (cases e; omega)
theorem rep_adv {gs : List (Nat × Nat)} {A : PF} (hA : ∀ i g v j,A i g = .ok v j -> i <= j) {m i g : Nat} {v} {j : Nat} (e : repF A gs m i g = .ok v j) : i < j := by
  unfold repF at e
  split at e
  · cases e
  · rename_i l g1 k h1
    have h2 : i < k := by
      unfold atomF at h1
      split at h1
      · cases h1
      · split at h1
        · cases h1
        · unfold atomG at h1
          split at h1
          · have hB : ∀ {free : Bool} {j0 : Nat} {v} {k},i < j0 -> groupB A gs m i g free j0 = .ok v k -> i < k := by
              intro free j0 v k h0 e
              unfold groupB at e
              split at e
              · cases e
              · split at e
                · cases e
                · split at e
                  · cases e
                  · rename_i h3
                    have := hA _ _ _ _ h3
                    split at e
                    · cases e; omega
                    · cases e
            unfold groupF at h1
            split at h1
            · split at h1
              · exact hB (by omega) h1
              · cases h1
            · exact hB (by omega) h1
          · split at h1
            · exact clsR_adv h1
            · split at h1
              · split at h1
                · cases h1
                · rename_i h3; cases h1; exact sign_adv h3
              · repeat' (split at h1)
                all_goals first | (cases h1; done) | (cases h1; omega)
    have hb : ∀ {mn mx : Int} {j0 : Nat} {v} {k},repB gs l g1 mn mx j0 = .ok v k -> j0 <= k := by
      intro mn mx j0 v k e
      unfold repB at e
      split at e <;> (cases e; omega)
    unfold repG at e
    split at e
    · have := hb e; omega
    · split at e
      · have := hb e; omega
      · split at e
        · have := hb e; omega
        · split at e
          · split at e
            · cases e
            · rename_i h3
              have := often_adv h3
              have := hb e; omega
          · cases e; exact h2
theorem catL_adv {gs : List (Nat × Nat)} {A : PF} (hA : ∀ i g v j,A i g = .ok v j -> i <= j) {m : Nat} : ∀ n i g ps v j,catL A gs m n i g ps = .ok v j -> i <= j
  | 0,_,_,_,_,_,e => by cases e; omega
  | n + 1,i,g,ps,v,j,e => by
    unfold catL at e
    split at e
    · split at e
      · cases e
      · rename_i h1
        have := rep_adv hA h1
        have := catL_adv hA _ _ _ _ _ _ e
        omega
    · cases e; omega
theorem altL_adv {gs : List (Nat × Nat)} {A : PF} (hA : ∀ i g v j,A i g = .ok v j -> i <= j) {m : Nat} : ∀ n i g ps v j,altL A gs m n i g ps = .ok v j -> i <= j
  | 0,_,_,_,_,_,e => by cases e; omega
  | n + 1,i,g,ps,v,j,e => by
    unfold altL at e
    split at e
    · split at e
      · cases e
      · rename_i h1
        have := catL_adv hA _ _ _ _ _ _ h1
        have := altL_adv hA _ _ _ _ _ _ e
        omega
    · cases e; omega
theorem altB_adv {gs : List (Nat × Nat)} {A : PF} (hA : ∀ i g v j,A i g = .ok v j -> i <= j) {m : Nat} : ∀ i g v j,altB A gs m i g = .ok v j -> i <= j := by
  intro i g v j e
  unfold altB at e
  split at e
  · cases e
  · rename_i h1
    have := catL_adv hA _ _ _ _ _ _ h1
    have := altL_adv hA _ _ _ _ _ _ e
    omega
theorem altF_adv (gs : List (Nat × Nat)) : ∀ m i g v j,altF gs m i g = .ok v j -> i <= j
  | 0 => altB_adv (fun _ _ _ _ e => by cases e)
  | m + 1 => altB_adv (altF_adv gs m)
theorem cat_emb {gs gs' : List (Nat × Nat)} {p : Nat} (h : Emb gs gs' p) {A A' : PF} (hA : PFe gs gs' p A A') {m m' : Nat} (hm : m' ≠ 20) : ∀ n n' i g ps,n <= n' -> i <= gs.length -> gs.length < n + i -> (∀ i g v j,i < gs.length -> repF A gs m i g = .ok v j -> i < j) -> OkE gs p (catL A gs m n i g ps) (catL A' gs' m' n' (i + p) g ps)
  | 0,_,_,_,_,_,_,_,_ => by omega
  | n + 1,n',i,g,ps,hn,hi,hf,hp => by
    obtain ⟨n',rfl⟩ : ∃ m,n' = m + 1 := ⟨n' - 1,by omega⟩
    have hlen := h.len
    intro v k e
    unfold catL at e ⊢
    by_cases h1 : i < gs.length /\ isS gs i 124 = false /\ (isS gs i 41 = false \/ m = 20)
    · rw [if_pos h1] at e
      cases hr : repF A gs m i g with
      | er a b => rw [hr] at e; cases e
      | ok q k2 =>
        have h41 : isS gs i 41 = false := by
          cases h2 : isS gs i 41 with
          | false => rfl
          | true =>
            exfalso
            have hlt := isS_lt h2
            have hg : gs[i]? = some gs[i] := List.getElem?_eq_getElem hlt
            generalize gs[i] = q at hg
            unfold isS at h2
            rw [hg] at h2
            simp only [beq_iff_eq] at h2
            unfold repF atomF at hr
            rw [hg] at hr
            simp only at hr
            split at hr
            · cases hr
            · rename_i x heq
              unfold atomG at heq
              rw [h2] at heq
              split at heq <;> first | (cases heq; done) | (simp at heq; done) | skip
              all_goals simp at heq
        rw [if_pos ⟨by omega,by rw [h.is1 h1.1]; exact h1.2.1, .inl (by rw [h.is1 h1.1]; exact h41)⟩]
        obtain ⟨h2,h3⟩ := rep_emb h hA (m' := m') _ _ hr
        have h4 := hp _ _ _ _ h1.1 hr
        obtain ⟨l,g2⟩ := q
        rw [hr] at e
        simp only at e
        obtain ⟨h5,h6⟩ := cat_emb h hA (m' := m') hm n n' k2 g2 (ps ++ [l]) (by omega) h3 (by omega) hp v k e
        rcases h2 with h2 | ⟨w,h2⟩
        · rw [h2]; exact ⟨h5,h6⟩
        · rw [h2]; exact ⟨.inr ⟨w,rfl⟩,h6⟩
    · rw [if_neg h1] at e
      cases e
      refine ⟨.inl ?_,hi⟩
      rw [if_neg ?_]
      rintro ⟨h2,h3,h4⟩
      have h4 := h4.resolve_right hm
      rcases Nat.lt_or_ge i gs.length with h5 | h5
      · rw [h.is1 h5] at h3 h4
        exact h1 ⟨h5,h3, .inl h4⟩
      · obtain rfl : i = gs.length := by omega
        unfold isS at h4
        rw [h.en] at h4
        simp at h4
theorem alt_emb {gs gs' : List (Nat × Nat)} {p : Nat} (h : Emb gs gs' p) {A A' : PF} (hA : PFe gs gs' p A A') (hv : ∀ i g v j,A i g = .ok v j -> i <= j) {m m' : Nat} (hm : m' ≠ 20) : ∀ n n' i g ps,n <= n' -> i <= gs.length -> gs.length < n + i -> OkE gs p (altL A gs m n i g ps) (altL A' gs' m' n' (i + p) g ps)
  | 0,_,_,_,_,_,_,_ => by omega
  | n + 1,n',i,g,ps,hn,hi,hf => by
    obtain ⟨n',rfl⟩ : ∃ m,n' = m + 1 := ⟨n' - 1,by omega⟩
    have hlen := h.len
    intro v k e
    unfold altL at e ⊢
    rw [h.is (by decide) hi]
    by_cases h1 : isS gs i 124 = true
    · have hlt := isS_lt h1
      rw [if_pos h1] at e ⊢
      rw [show i + p + 1 = i + 1 + p by omega]
      cases hr : catF A gs m (i + 1) g with
      | er a b => rw [hr] at e; cases e
      | ok q k2 =>
        have h4 := catL_adv hv _ _ _ _ _ _ hr
        obtain ⟨h2,h3⟩ := cat_emb h hA (m' := m') hm (gs.length + 1) (gs'.length + 1) (i + 1) g [] (by omega) (by omega) (by omega) (fun i g v j _ e => rep_adv hv e) _ _ hr
        obtain ⟨l,g2⟩ := q
        rw [hr] at e
        simp only at e
        obtain ⟨h5,h6⟩ := alt_emb h hA hv (m' := m') hm n n' k2 g2 (ps ++ [l]) (by omega) h3 (by omega) v k e
        unfold catF
        rcases h2 with h2 | ⟨w,h2⟩
        · rw [h2]; exact ⟨h5,h6⟩
        · rw [h2]; exact ⟨.inr ⟨w,rfl⟩,h6⟩
    · rw [if_neg h1] at e ⊢
      cases e
      exact ⟨.inl rfl,hi⟩
theorem altB_emb {gs gs' : List (Nat × Nat)} {p : Nat} (h : Emb gs gs' p) {A A' : PF} (hA : PFe gs gs' p A A') (hv : ∀ i g v j,A i g = .ok v j -> i <= j) {m m' : Nat} (hm : m' ≠ 20) : PFe gs gs' p (altB A gs m) (altB A' gs' m') := by
  intro i g hi v k e
  have hlen := h.len
  unfold altB at e ⊢
  cases hr : catF A gs m i g with
  | er a b => rw [hr] at e; cases e
  | ok q k2 =>
    have h4 := catL_adv hv _ _ _ _ _ _ hr
    obtain ⟨h2,h3⟩ := cat_emb h hA (m' := m') hm (gs.length + 1) (gs'.length + 1) i g [] (by omega) hi (by omega) (fun i g v j _ e => rep_adv hv e) _ _ hr
    obtain ⟨l,g2⟩ := q
    rw [hr] at e
    simp only at e
    obtain ⟨h5,h6⟩ := alt_emb h hA hv (m' := m') hm (gs.length + 1) (gs'.length + 1) k2 g2 [l] (by omega) h3 (by omega) v k e
    unfold catF
    rcases h2 with h2 | ⟨w,h2⟩
    · rw [h2]; exact ⟨h5,h6⟩
    · rw [h2]; exact ⟨.inr ⟨w,rfl⟩,h6⟩
theorem altF_emb {gs gs' : List (Nat × Nat)} {p : Nat} (h : Emb gs gs' p) : ∀ m m',m' < 20 -> PFe gs gs' p (altF gs m) (altF gs' m')
  | 0,0,_ => altB_emb h (fun i g _ v j e => by cases e) (fun _ _ _ _ e => by cases e) (by omega)
  | 0,m' + 1,_ => altB_emb h (fun i g _ v j e => by cases e) (fun _ _ _ _ e => by cases e) (by omega)
  | m + 1,0,_ => altB_emb h (fun i g hi v j e => ⟨.inr ⟨_,rfl⟩,by
      have := (altF_emb h m 0 (by omega) i g hi v j e).2; exact this⟩) (altF_adv gs m) (by omega)
  | m + 1,m' + 1,hm => altB_emb h (altF_emb h m m' (by omega)) (altF_adv gs m) (by omega)
def c6 (l : List Nod) : Nat := l.countP fun n => n.op == 6
theorem c6_app (a b : List Nod) : c6 (a ++ b) = c6 a + c6 b := List.countP_append
theorem c6_cons (n : Nod) (l : List Nod) : c6 (n :: l) = c6 l + if n.op = 6 then 1 else 0 := by
  unfold c6; rw [List.countP_cons]; simp only [beq_iff_eq]
theorem c6_join {op : Int} (h : op ≠ 6) (ps : List (List Nod)) : c6 (joinS op ps) = (ps.map c6).sum := by
  unfold joinS
  match ps with
  | [] => rfl
  | [l] => simp
  | a :: b :: ps =>
    rw [c6_cons,if_neg (by simpa [mkNd] using h)]
    have : ∀ l : List (List Nod),c6 l.flatten = (l.map c6).sum := by
      intro l
      induction l with
      | nil => rfl
      | cons x l ih => rw [List.flatten_cons,c6_app,ih]; rfl
    rw [this]; rfl
def PFc (A : PF) : Prop := ∀ i g l g2 j,A i g = .ok (l,g2) j -> g2 = g + c6 l
theorem rep_c6 {gs : List (Nat × Nat)} {A : PF} (hA : PFc A) {m i g : Nat} {l g2 j} (e : repF A gs m i g = .ok (l,g2) j) : g2 = g + c6 l := by
  unfold repF at e
  split at e
  · cases e
  · rename_i l1 g1 k h1
    have h2 : g1 = g + c6 l1 := by
      unfold atomF at h1
      split at h1
      · cases h1
      · split at h1
        · cases h1
        · unfold atomG at h1
          split at h1
          · have hB : ∀ {free : Bool} {j0 : Nat} {l g2 k},groupB A gs m i g free j0 = .ok (l,g2) k -> g2 = g + c6 l := by
              intro free j0 l g2 k e
              unfold groupB at e
              split at e
              · cases e
              · split at e
                · cases e
                · split at e
                  · cases e
                  · rename_i h3
                    have h3 := hA _ _ _ _ _ h3
                    split at e
                    · cases e
                      cases free with
                      | true => simpa using h3
                      | false =>
                        simp only [Bool.false_eq_true,if_false] at h3 ⊢
                        rw [c6_cons,if_pos (show (mkNd 6 0 0 false ((g + 1 : Nat) : Int) 1 []).op = 6 from rfl)]; omega
                    · cases e
            unfold groupF at h1
            split at h1
            · split at h1
              · exact hB h1
              · cases h1
            · exact hB h1
          · split at h1
            · unfold clsR at h1
              split at h1
              · cases h1
              · cases h1; rfl
            · split at h1
              · split at h1
                · cases h1
                · cases h1; rfl
              · repeat' (split at h1)
                all_goals first | (cases h1; done) | (cases h1; rfl)
    have hb : ∀ {mn mx : Int} {j0 : Nat} {l g2 k},repB gs l1 g1 mn mx j0 = .ok (l,g2) k -> g2 = g + c6 l := by
      intro mn mx j0 l g2 k e
      unfold repB at e
      cases e
      rw [c6_cons,if_neg (by simp [mkNd])]; exact h2
    unfold repG at e
    split at e
    · exact hb e
    · split at e
      · exact hb e
      · split at e
        · exact hb e
        · split at e
          · split at e
            · cases e
            · exact hb e
          · cases e; exact h2
theorem cat_c6 {gs : List (Nat × Nat)} {A : PF} (hA : PFc A) {m : Nat} : ∀ n i g ps l g2 j,catL A gs m n i g ps = .ok (l,g2) j -> g2 + (ps.map c6).sum = g + c6 l
  | 0,_,_,ps,_,_,_,e => by cases e; rw [c6_join (by decide)]
  | n + 1,i,g,ps,l,g2,j,e => by
    unfold catL at e
    split at e
    · split at e
      · cases e
      · rename_i l1 g1 k h1
        have h2 := rep_c6 hA h1
        have h3 := cat_c6 hA _ _ _ _ _ _ _ e
        rw [List.map_append,List.sum_append] at h3
        simp only [List.map_cons,List.map_nil,List.sum_cons,List.sum_nil] at h3
        omega
    · cases e; rw [c6_join (by decide)]
theorem altL_c6 {gs : List (Nat × Nat)} {A : PF} (hA : PFc A) {m : Nat} : ∀ n i g ps l g2 j,altL A gs m n i g ps = .ok (l,g2) j -> g2 + (ps.map c6).sum = g + c6 l
  | 0,_,_,ps,_,_,_,e => by cases e; rw [c6_join (by decide)]
  | n + 1,i,g,ps,l,g2,j,e => by
    unfold altL at e
    split at e
    · split at e
      · cases e
      · rename_i l1 g1 k h1
        have h2 := cat_c6 hA _ _ _ _ _ _ _ h1
        have h3 := altL_c6 hA _ _ _ _ _ _ _ e
        rw [List.map_append,List.sum_append] at h3
        simp only [List.map_cons,List.map_nil,List.sum_cons,List.sum_nil] at h2 h3
        omega
    · cases e; rw [c6_join (by decide)]
theorem altB_c6 {gs : List (Nat × Nat)} {A : PF} (hA : PFc A) {m : Nat} : PFc (altB A gs m) := by
  intro i g l g2 j e
  unfold altB at e
  split at e
  · cases e
  · rename_i h1
    have h2 := cat_c6 hA _ _ _ _ _ _ _ h1
    have h3 := altL_c6 hA _ _ _ _ _ _ _ e
    simp only [List.map_cons,List.map_nil,List.sum_cons,List.sum_nil] at h2 h3
    omega
theorem altF_c6 (gs : List (Nat × Nat)) : ∀ m,PFc (altF gs m)
  | 0 => altB_c6 (fun _ _ _ _ _ e => by cases e)
  | m + 1 => altB_c6 (altF_c6 gs m)
theorem dec_true {p : Prop} (h : dec p = true) : p := by
 refine Classical.byContradiction fun g => ?_;rw [dec_no g] at h; cases h
def ixF_Ba (fr : Go.V.Fr) (k : Nat) : Go.V.D := Go.V.nth .junk fr.loc k
abbrev Cps := Nat -> Int
def capsC (f : Cps) : List D := [.int .i64 (f 0), .int .i64 (f 1), .int .i64 (f 2), .int .i64 (f 3), .int .i64 (f 4), .int .i64 (f 5), .int .i64 (f 6), .int .i64 (f 7), .int .i64 (f 8), .int .i64 (f 9)]
def noCaps : Cps := fun _ => -1
def zeroCaps : Cps := fun _ => 0
def setC (f : Cps) (x : Nat) (v : Int) : Cps := fun j => if j = x then v else f j
structure Tr3 where
 pc : Nat
 at_ : Nat
 c : Cps
def tryC (t : Tr3) : List D := .int .i64 (t.pc : Nat) :: .int .i64 (t.at_ : Nat) :: capsC t.c
theorem set_caps {a b : D} {f : Cps} {x : Nat} {v : Int} (hx : x < 10) : setMany (a :: b :: capsC f) (2 + x) [.int .i64 v] = a :: b :: capsC (setC f x v) := by
 match x,hx with
 | 0,_ => rfl
 | 1,_ => rfl
 | 2,_ => rfl
 | 3,_ => rfl
 | 4,_ => rfl
 | 5,_ => rfl
 | 6,_ => rfl
 | 7,_ => rfl
 | 8,_ => rfl
 | 9,_ => rfl
inductive Res where
 | found
 | more (l : List Tr3)
def stepS (code : List PIns) (gs : List (Nat × Nat)) (pl : List Int) (t : Tr3) : Res :=
 match code[t.pc]? with
 | none => .more []
 | some i =>
  if i.op = 7 then .found
  else if i.op = 2 then .more [⟨i.x.toNat,t.at_,t.c⟩,⟨i.y.toNat,t.at_,t.c⟩]
  else if i.op = 3 then .more [⟨i.x.toNat,t.at_,t.c⟩]
  else if i.op = 4 then .more [⟨t.pc + 1,t.at_,setC t.c i.x.toNat (pl.getD t.at_ 0)⟩]
  else if i.op = 5 then .more (if t.at_ = 0 then [⟨t.pc + 1,t.at_,t.c⟩] else [])
  else if i.op = 6 then .more (if t.at_ = gs.length then [⟨t.pc + 1,t.at_,t.c⟩] else [])
  else .more (if t.at_ < gs.length /\ hasS i.rs ((gs.getD t.at_ (0,0)).1 : Nat) = true then [⟨t.pc + 1,t.at_ + 1,t.c⟩] else [])
theorem shaped_cases {n ns pc : Nat} {i : PIns} (h : shapedS n ns pc i = true) :
  i.op = 7 \/ (i.op = 2 /\ (0 <= i.x /\ i.x < (n : Int)) /\ 0 <= i.y /\ i.y < (n : Int)) \/ (i.op = 3 /\ 0 <= i.x /\ i.x < (n : Int)) \/ (i.op = 4 /\ pc + 1 < n /\ 0 <= i.x /\ i.x < 10) \/ (i.op = 5 /\ pc + 1 < n) \/ (i.op = 6 /\ pc + 1 < n) \/ (i.op = 1 /\ pc + 1 < n) := by
 unfold shapedS at h
 split at h
 ·rename_i h1;simp only [Bool.and_eq_true,decide_eq_true_eq] at h;refine .inr (.inr (.inr (.inr (.inr (.inr ⟨h1,?_⟩)))));omega
 ·simp only [Bool.and_eq_true] at h;obtain ⟨_,h⟩ := h
  split at h
  ·rename_i h2;simp only [Bool.and_eq_true] at h;exact .inr (.inl ⟨h2,inS_iff.1 h.1,inS_iff.1 h.2⟩)
  ·simp only [Bool.and_eq_true] at h;obtain ⟨_,h⟩ := h
   split at h
   ·rename_i h3;exact .inr (.inr (.inl ⟨h3,inS_iff.1 h⟩))
   ·split at h
    ·rename_i h4;simp only [Bool.and_eq_true,decide_eq_true_eq] at h;exact .inr (.inr (.inr (.inl ⟨h4,by omega,inS_iff.1 h.2⟩)))
    ·split at h
     ·rename_i h5;simp only [Bool.and_eq_true,decide_eq_true_eq] at h
      rcases h5 with h5 | h5
      ·exact .inr (.inr (.inr (.inr (.inl ⟨h5,by omega⟩))))
      ·exact .inr (.inr (.inr (.inr (.inr (.inl ⟨h5,by omega⟩)))))
     ·split at h
      ·rename_i h7;exact .inl h7
      ·cases h
def stepPost (N : Nat) (S : St) (k : Nat) (p : Pg) (gs : List (Nat × Nat)) (plD seenD : D) (pls : List Int) (H : List Ent) (t : Tr3) (stk : List Tr3) (d : D) (st' : St) : Prop :=
 match stepS p.code gs pls t with
 | .found => d = .tup [.agg (capsC t.c), .bool true] /\ ∃ leftD,Has N S st' (.box k (.mem 0 false [p.cd,p.sd,gotsD gs,plD,seenD,leftD]) :: .lst leftD 12 (stk.reverse.map tryC) :: .lst plD 1 (pls.map intC) :: H)
 | .more l => d = .tup [.agg (capsC zeroCaps), .bool false] /\ ∃ leftD,Has N S st' (.box k (.mem 0 false [p.cd,p.sd,gotsD gs,plD,seenD,leftD]) :: .lst leftD 12 ((l ++ stk).reverse.map tryC) :: .lst plD 1 (pls.map intC) :: H)
theorem step_ev {N : Nat} {S st : St} {H : List Ent} {k : Nat} {p : Pg} {gs : List (Nat × Nat)} {plD seenD leftD : D} {pls : List Int} {t : Tr3} {stk : List Tr3} {i : PIns} (hF : S.flr <= N) (hp : p.ok) (hi : p.code[t.pc]? = some i) (hsh : shapedS p.code.length p.starts.length t.pc i = true) (hgl : gs.length <= 1048576) (hat : t.at_ <= gs.length) (hpl : pls.length = gs.length + 1) (hsl : stk.length <= 536870912)
  (hH : Has N S st (.box k (.mem 0 false [p.cd,p.sd,gotsD gs,plD,seenD,leftD]) :: .lst leftD 12 (stk.reverse.map tryC) :: .lst plD 1 (pls.map intC) :: H)) :
  ∃ d st',Ev pv 84 [.ptr k 0 0, .agg (tryC t)] st d st' /\ stepPost N S k p gs plD seenD pls H t stk d st' := by
 have hc := hp.c.arg N S;have hlen := hp.cl;have hgr : Arg N S 2 (gotsD gs) (gs.map gotC) := Arg.pure (fun st => gots_rows st gs);have hr := ins_get hi;have hrd := (hp.i i (List.mem_of_getElem? hi)).1;have hra := hrd.arg N S;have hrl := (hp.i i (List.mem_of_getElem? hi)).2;have hlt := lt_get hi;have hcases := shaped_cases hsh;obtain ⟨op,x,y,rd,rs⟩ := i;obtain ⟨pc,at_,c⟩ := t;simp only at *;refine Ev.mkE rfl fi84 rfl rfl rfl ?_;refine zE ?_;change EvC _ _ _ _ st _;refine zQ 2 ?_;refine qb hH fun k3 st hk3 hH => ?_;dsimp only [u2,u1,u3,u4,setMany,u5,u6,D.cells,Nat.reduceAdd,insC,intC,tryC,capsC] at hH;refine qa hH fun k4 st hk4 hH => ?_;refine zQ 11 ?_;refine qr fun p15 hp15 => ?_;refine EvO.rloadS rfl (ev rfl) (by assumption) rfl (by dsimp only [Fr.put,u1,u2] <;> rfl) ?_;refine qa hH fun k6 st hk6 hH => ?_;refine qS hH at0 fun st hH => ?_;dsimp only [u2,u1,u3,u4,setMany,u5,u6,D.cells,Nat.reduceAdd,insC,intC,tryC,capsC] at hH;refine zQ 3 ?_;refine EvO.hloadS (m := 12) hH rfl (ev rfl) (by exact at2) (by dsimp only [List.drop_succ_cons,List.drop_zero,List.take_succ_cons,List.take_zero,insC,intC,tryC,capsC] <;> rfl) rfl rfl (by dsimp only [Fr.put,u1,u2] <;> rfl) ?_;refine qa hH fun k7 st hk7 hH => ?_;refine qS hH at0 fun st hH => ?_;dsimp only [u2,u1,u3,u4,setMany,u5,u6,D.cells,Nat.reduceAdd,insC,intC,tryC,capsC] at hH;refine zQ 7 ?_;refine qT hH at0 fun st hH => ?_;dsimp only [u2,u1,u3,u4,setMany,u5,u6,D.cells,Nat.reduceAdd,insC,intC,tryC,capsC] at hH;refine zQ 7 ?_;have hze : D.agg [.int .i64 0, .int .i64 0, .int .i64 0, .int .i64 0, .int .i64 0, .int .i64 0, .int .i64 0, .int .i64 0, .int .i64 0, .int .i64 0] = .agg (capsC zeroCaps) := rfl;refine EvC.merge (fun fr st => ∃ (t' : Tr3) (tmp : List (Nat × D)),fr = ⟨24, [.ptr k 0 0,ixF_Ba fr 1,ixF_Ba fr 2, .ptr k3 0 0, .ptr k4 0 0, .bool false, .ptr k6 0 0, .ptr k7 0 0,ixF_Ba fr 8,ixF_Ba fr 9,ixF_Ba fr 10,ixF_Ba fr 11,ixF_Ba fr 12,ixF_Ba fr 13,ixF_Ba fr 14,ixF_Ba fr 15,ixF_Ba fr 16,ixF_Ba fr 17,ixF_Ba fr 18,ixF_Ba fr 19,ixF_Ba fr 20,ixF_Ba fr 21,ixF_Ba fr 22,ixF_Ba fr 23],tmp⟩ /\ Has N S st (.box k7 (.mem 0 false (tryC t')) :: .box k6 (.mem 0 false [.int .i64 op, .int .i64 x, .int .i64 y,rd]) :: .box k4 (.mem 0 false (capsC zeroCaps)) :: .box k3 (.mem 0 false (tryC ⟨pc,at_,c⟩)) :: .box k (.mem 0 false [p.cd,p.sd,gotsD gs,plD,seenD,leftD]) :: .lst leftD 12 (stk.reverse.map tryC) :: .lst plD 1 (pls.map intC) :: H) /\ (stepS p.code gs pls ⟨pc,at_,c⟩ = .more [t'])) ?_ ?_
 ·refine zQ 6 ?_;refine zI (fun h7 => ?_) fun h7 => ?_
  ·have hS : stepS p.code gs pls ⟨pc,at_,c⟩ = .found := by unfold stepS; simp only [hi]; rw [if_pos h7]
   refine zQ 3 ?_;refine EvO.hloadS (m := 10) hH rfl (ev rfl) (by exact at3) (by dsimp only [List.drop_succ_cons,List.drop_zero,List.take_succ_cons,List.take_zero,insC,intC,tryC,capsC] <;> rfl) rfl rfl (put_T rfl _) ?_;refine qS hH at2 fun st hH => ?_;dsimp only [u2,u1,u3,u4,setMany,u5,u6,D.cells,Nat.reduceAdd,insC,intC,tryC,capsC] at hH;refine zQ 2 ?_;refine EvC.ret ⟨rx,_,_,_,hH.resCellT rfl at2 rfl rfl,rfl,?_⟩;unfold stepPost; rw [hS];exact ⟨rfl,leftD,hH.drop 4⟩
  ·refine zQ 5 ?_;refine zI (fun h2 => ?_) fun h2 => ?_
   ·obtain ⟨_,⟨hx0,hx1⟩,hy0,hy1⟩ := (hcases.resolve_left h7).resolve_right (by omega);obtain ⟨xn,rfl⟩ := Int.eq_ofNat_of_zero_le hx0;obtain ⟨yn,rfl⟩ := Int.eq_ofNat_of_zero_le hy0;have hS : stepS p.code gs pls ⟨pc,at_,c⟩ = .more [⟨xn,at_,c⟩,⟨yn,at_,c⟩] := by unfold stepS; simp only [hi]; rw [if_neg h7,if_pos h2]; rfl
    refine zQ 12 ?_;refine EvO.hloadS (m := 10) hH rfl (ev rfl) (by exact at3) (by dsimp only [List.drop_succ_cons,List.drop_zero,List.take_succ_cons,List.take_zero,insC,intC,tryC,capsC] <;> rfl) rfl rfl (put_T rfl _) ?_;refine EvO.go (d := .agg (tryC ⟨yn,at_,c⟩)) (st1 := _) rfl rfl rfl (put_T rfl _) ?_;refine zQ 5 ?_;refine EvO.hloadS (m := 10) hH rfl (ev rfl) (by exact at3) (by dsimp only [List.drop_succ_cons,List.drop_zero,List.take_succ_cons,List.take_zero,insC,intC,tryC,capsC] <;> rfl) rfl rfl (put_T rfl _) ?_;refine EvO.go (d := .agg (tryC ⟨xn,at_,c⟩)) (st1 := _) rfl rfl rfl (put_T rfl _) ?_;refine qh (s := 12) (vs := [_,_]) hH fun k49 st hk49 hH => ?_;dsimp only [u2,u1,u3,u4,setMany,u5,u6,D.cells,Nat.reduceAdd,insC,intC,tryC,capsC] at hH;refine EvO.happend (s := 12) hH rfl (ev rfl) (ev rfl) (by exact at6) (by exact hH.rows (by exact at0)) rfl rfl rfl rfl rfl rfl rfl ⟨(Nat.le_of_ble_eq_true rfl),(Nat.le_of_ble_eq_true rfl)⟩ (fun _ => (put_T rfl _)) (by simp only [List.length_cons,List.length_nil,List.length_map,List.length_reverse] <;> omega) (by exact .inl hF) (fun x50 st hH => ?_);dsimp only [u2,u1,u3,u4,setMany,u5,u6,D.cells,Nat.reduceAdd,insC,intC,tryC,capsC] at hH;refine zQ 2 ?_;refine qT hH at5 (fun st hH => ?_) (hcs := hH.ocells at6);dsimp only [u2,u1,u3,u4,setMany,u5,u6,D.cells,Nat.reduceAdd,insC,intC,tryC,capsC] at hH;refine zQ 3 ?_;refine EvO.go (d := .agg (capsC zeroCaps)) (st1 := _) rfl rfl rfl (put_T rfl _) ?_;refine qS hH at3 fun st hH => ?_;dsimp only [u2,u1,u3,u4,setMany,u5,u6,D.cells,Nat.reduceAdd,insC,intC,tryC,capsC] at hH;refine zQ 2 ?_;refine EvC.ret ⟨rx,_,_,_,hH.resCellT rfl at3 rfl rfl,rfl,?_⟩;unfold stepPost; rw [hS];refine ⟨rfl,x50,?_⟩;have hrv : ((([⟨xn,at_,c⟩,⟨yn,at_,c⟩] : List Tr3) ++ stk).reverse.map tryC) = stk.reverse.map tryC ++ [tryC ⟨yn,at_,c⟩,tryC ⟨xn,at_,c⟩] := by simp
    rw [hrv];exact hH.drop 5
   ·refine zQ 5 ?_;refine zI (fun h3 => ?_) fun h3 => ?_
    ·obtain ⟨_,hx0,hx1⟩ := ((hcases.resolve_left h7).resolve_left (by omega)).resolve_right (by omega);obtain ⟨xn,rfl⟩ := Int.eq_ofNat_of_zero_le hx0;refine zQ 4 ?_;refine qT hH at0 fun st hH => ?_;dsimp only [u2,u1,u3,u4,setMany,u5,u6,D.cells,Nat.reduceAdd,insC,intC,tryC,capsC] at hH;refine zQ 1 ?_;exact ⟨⟨xn,at_,c⟩,_,rfl,hH,by unfold stepS; simp only [hi]; rw [if_neg h7,if_neg h2,if_pos h3]; rfl⟩
    ·refine zQ 5 ?_;refine zI (fun h4 => ?_) fun h4 => ?_
     ·obtain ⟨_,hpc1,hx0,hx1⟩ := (((hcases.resolve_left h7).resolve_left (by omega)).resolve_left (by omega)).resolve_right (by omega);obtain ⟨xn,rfl⟩ := Int.eq_ofNat_of_zero_le hx0
      obtain ⟨pv0,hpv⟩ : ∃ v,pls[at_]? = some v := ⟨pls[at_]'(by omega),List.getElem?_eq_getElem _⟩
      have hr1 := int_get hpv;refine zQ 9 ?_;refine qi hH at6 fun p69 hp69 => ?_;refine zQ 2 ?_;refine EvO.harr (m := 10) (s := 1) (i := xn) (o := 2 + xn) rfl (ev rfl) (ev rfl) rfl rfl (by omega) (by omega) (put_T rfl _) ?_;refine EvO.hstore hH rfl (ev rfl) (ev rfl) rfl (by exact rfl) at0 (by show 2 + xn + 1 <= 12; omega) (.inl hF) (fun st hH => ?_);change Has _ _ _ (.box k7 (.mem 0 false (setMany (_ :: _ :: capsC c) (2 + xn) [.int .i64 pv0])) :: _) at hH;rw [set_caps (by omega)] at hH;refine zQ 1 ?_;refine ⟨⟨pc + 1,at_,setC c xn pv0⟩,_,rfl,hH,by unfold stepS; simp only [hi]; rw [if_neg h7,if_neg h2,if_neg h3,if_pos h4]; simp [List.getD_eq_getElem?_getD,hpv]⟩
     ·refine zQ 5 ?_;refine zI (fun h5 => ?_) fun h5 => ?_
      ·refine zQ 6 ?_
       by_cases ha : at_ = 0
       ·subst ha;refine EvC.cond (v := false) (by dsimp only [Fr.ev,Fr.get,nth,V.look]; rfl) (fun h => by cases h) (fun _ => ?_);refine zQ 1 ?_;exact ⟨⟨pc + 1,0,c⟩,_,rfl,hH,by unfold stepS; simp only [hi]; rw [if_neg h7,if_neg h2,if_neg h3,if_neg h4,if_pos h5]; rfl⟩
       ·refine qD rfl (by simp; omega) ?_;refine zQ 2 ?_;refine EvO.go (d := .agg (capsC zeroCaps)) (st1 := _) rfl rfl rfl (put_T rfl _) ?_;refine qS hH at2 fun st hH => ?_;dsimp only [u2,u1,u3,u4,setMany,u5,u6,D.cells,Nat.reduceAdd,insC,intC,tryC,capsC] at hH;refine zQ 2 ?_;refine EvC.ret ⟨rx,_,_,_,hH.resCellT rfl at2 rfl rfl,rfl,?_⟩;have hS : stepS p.code gs pls ⟨pc,at_,c⟩ = .more [] := by unfold stepS; simp only [hi]; rw [if_neg h7,if_neg h2,if_neg h3,if_neg h4,if_pos h5,if_neg ha]
        unfold stepPost; rw [hS];exact ⟨rfl,leftD,hH.drop 4⟩
      ·refine zQ 5 ?_;refine zI (fun h6 => ?_) fun h6 => ?_
       ·refine zQ 8 ?_;refine qn ?_;simp only [List.length_map];refine zQ 2 ?_
        by_cases ha : at_ = gs.length
        ·refine qE rfl (by rw [ha]; simp) ?_;refine zQ 1 ?_;exact ⟨⟨pc + 1,at_,c⟩,_,rfl,hH,by unfold stepS; simp only [hi]; rw [if_neg h7,if_neg h2,if_neg h3,if_neg h4,if_neg h5,if_pos h6,if_pos ha]⟩
        ·refine qD rfl (by simp; omega) ?_;refine zQ 2 ?_;refine EvO.go (d := .agg (capsC zeroCaps)) (st1 := _) rfl rfl rfl (put_T rfl _) ?_;refine qS hH at2 fun st hH => ?_;dsimp only [u2,u1,u3,u4,setMany,u5,u6,D.cells,Nat.reduceAdd,insC,intC,tryC,capsC] at hH;refine zQ 2 ?_;refine EvC.ret ⟨rx,_,_,_,hH.resCellT rfl at2 rfl rfl,rfl,?_⟩;have hS : stepS p.code gs pls ⟨pc,at_,c⟩ = .more [] := by unfold stepS; simp only [hi]; rw [if_neg h7,if_neg h2,if_neg h3,if_neg h4,if_neg h5,if_pos h6,if_neg ha]
         unfold stepPost; rw [hS];exact ⟨rfl,leftD,hH.drop 4⟩
       ·have h1 : op = 1 := by omega
        refine zQ 5 ?_;refine qD rfl (by simp [h1]) ?_
        have hno : ∀ b,stepS p.code gs pls ⟨pc,at_,c⟩ = .more b ↔ (.more (if at_ < gs.length /\ hasS rs ((gs.getD at_ (0,0)).1 : Nat) = true then [⟨pc + 1,at_ + 1,c⟩] else []) : Res) = .more b := by
         intro b; unfold stepS; simp only [hi]; rw [if_neg h7,if_neg h2,if_neg h3,if_neg h4,if_neg h5,if_neg h6]
        by_cases ha : at_ < gs.length
        ·obtain ⟨g,hg⟩ : ∃ g,gs[at_]? = some g := ⟨gs[at_]'ha,List.getElem?_eq_getElem _⟩
         have hr1 : (gs.map gotC)[at_]? = some (gotC g) := by rw [List.getElem?_map,hg]; rfl
         have hgd : gs.getD at_ (0,0) = g := by rw [List.getD_eq_getElem?_getD,hg]; rfl
         have hg8 : decide ((at_ : Int) >= (gs.length : Nat)) = false := by rw [decide_eq_false]; simp; omega
         rw [hgd] at hno;refine zQ 2 ?_;refine EvC.cutT 114 (.bool (!hasS rs (g.1 : Nat))) [] ?_ (fun ff tmp htmp => ?_)
         ·refine zQ 6 ?_;refine qn ?_;simp only [List.length_map];refine zQ 10 ?_;refine qr (fun p109 hp109 => ?_) (hg := wi hg8);refine qf (fo := 0) (fun p110 hp110 => ?_) (hg := wi hg8);refine zQ 1 ?_;refine qv (has_ev (hra.rows hH) (by omega)) ?_ (hg := wi hg8);refine zQ 2 ?_;refine EvO.nil (leafT ?_ ?_)
          ·dsimp only [setW,List.foldl,nth,u2,u1]
           all_goals (first | rfl | simp)
          ·dsimp only [Fr.putO,Fr.put,Fr.clean,Fr.ev,Fr.get,nth,look,u1,u2,v1,v2,v4]
           all_goals (first | rfl | (simp [hg8]; done) | (simp_all; done) | (simp [hg8]; omega) | (simp_all; omega))
         dsimp only [setW,List.foldl,nth,u2,u1];refine EvC.cond (by assumption) (fun hh => ?_) (fun hh => ?_) <;> try simp only [Bool.not_eq_true',Bool.not_eq_false'] at hh
         ·refine zQ 2 ?_;refine EvO.go (d := .agg (capsC zeroCaps)) (st1 := _) rfl rfl rfl (put_T rfl _) ?_;refine qS hH at2 fun st hH => ?_;dsimp only [u2,u1,u3,u4,setMany,u5,u6,D.cells,Nat.reduceAdd,insC,intC,tryC,capsC] at hH;refine zQ 2 ?_;refine EvC.ret ⟨rx,_,_,_,hH.resCellT rfl at2 rfl rfl,rfl,?_⟩;have hS := (hno []).2 (by rw [if_neg (by rintro ⟨_,h⟩; rw [h] at hh; cases hh)]);unfold stepPost; rw [hS];exact ⟨rfl,leftD,hH.drop 4⟩
         ·refine zQ 6 ?_;refine qT hH at0 fun st hH => ?_;dsimp only [u2,u1,u3,u4,setMany,u5,u6,D.cells,Nat.reduceAdd,insC,intC,tryC,capsC] at hH;refine zQ 1 ?_;exact ⟨⟨pc + 1,at_ + 1,c⟩,_,rfl,hH,(hno _).2 (by rw [if_pos ⟨ha,by simpa using hh⟩])⟩
        ·have hg8 : decide ((at_ : Int) >= (gs.length : Nat)) = true := by rw [decide_eq_true]; simp; omega
         refine zQ 2 ?_;refine EvC.cutT 114 (.bool true) [] ?_ (fun ff tmp htmp => ?_)
         ·refine zQ 6 ?_;refine qn ?_;simp only [List.length_map];refine zQ 16 ?_;refine EvO.nil (leafT ?_ ?_)
          ·dsimp only [setW,List.foldl,nth,u2,u1]
           all_goals (first | rfl | simp)
          ·dsimp only [Fr.putO,Fr.put,Fr.clean,Fr.ev,Fr.get,nth,look,u1,u2,v1,v2,v4]
           all_goals (first | rfl | (simp [hg8]; done) | (simp_all; done) | (simp [hg8]; omega) | (simp_all; omega))
         dsimp only [setW,List.foldl,nth,u2,u1];refine zQ 3 ?_;refine EvO.go (d := .agg (capsC zeroCaps)) (st1 := _) rfl rfl rfl (put_T rfl _) ?_;refine qS hH at2 fun st hH => ?_;dsimp only [u2,u1,u3,u4,setMany,u5,u6,D.cells,Nat.reduceAdd,insC,intC,tryC,capsC] at hH;refine zQ 2 ?_;refine EvC.ret ⟨rx,_,_,_,hH.resCellT rfl at2 rfl rfl,rfl,?_⟩;have hS := (hno []).2 (by rw [if_neg (fun h => ha h.1)]);unfold stepPost; rw [hS];exact ⟨rfl,leftD,hH.drop 4⟩
 ·rintro fr st ⟨t',tmp,hfr,hH,hS⟩;rw [hfr];clear hfr;generalize ixF_Ba fr = ee;clear fr;obtain ⟨pc',at',c'⟩ := t';dsimp only [tryC,capsC] at hH;refine zQ 7 ?_;refine EvO.hloadS (m := 12) hH rfl (ev rfl) (by exact at0) (by dsimp only [List.drop_succ_cons,List.drop_zero,List.take_succ_cons,List.take_zero,insC,intC,tryC,capsC] <;> rfl) rfl rfl (put_T rfl _) ?_;refine qh (s := 12) (vs := [_]) hH fun k126 st hk126 hH => ?_;refine EvO.happend (s := 12) hH rfl (ev rfl) (ev rfl) (by exact at6) (by exact hH.rows (by exact at0)) rfl rfl rfl rfl rfl rfl rfl ⟨(Nat.le_of_ble_eq_true rfl),(Nat.le_of_ble_eq_true rfl)⟩ (fun _ => (put_T rfl _)) (by simp only [List.length_cons,List.length_nil,List.length_map,List.length_reverse] <;> omega) (by exact .inl hF) (fun x127 st hH => ?_);dsimp only [u2,u1,u3,u4,setMany,u5,u6,D.cells,Nat.reduceAdd,insC,intC,tryC,capsC] at hH;refine zQ 2 ?_;refine qT hH at5 (fun st hH => ?_) (hcs := hH.ocells at6);dsimp only [u2,u1,u3,u4,setMany,u5,u6,D.cells,Nat.reduceAdd,insC,intC,tryC,capsC] at hH;refine zQ 3 ?_;refine EvO.go (d := .agg (capsC zeroCaps)) (st1 := _) rfl rfl rfl (put_T rfl _) ?_;refine qS hH at3 fun st hH => ?_;dsimp only [u2,u1,u3,u4,setMany,u5,u6,D.cells,Nat.reduceAdd,insC,intC,tryC,capsC] at hH;refine zQ 2 ?_;refine EvC.ret ⟨rx,_,_,_,hH.resCellT rfl at3 rfl rfl,rfl,?_⟩;unfold stepPost; rw [hS];refine ⟨rfl,x127,?_⟩;have hrv : ((([⟨pc',at',c'⟩] : List Tr3) ++ stk).reverse.map tryC) = stk.reverse.map tryC ++ [tryC ⟨pc',at',c'⟩] := by simp
  rw [hrv];exact hH.drop 5
def ixF_Bb (fr : Go.V.Fr) (k : Nat) : Go.V.D := Go.V.nth .junk fr.loc k
def dfsF (idx : Nat -> Nat -> Nat) (stp : Tr3 -> Res) : Nat -> List Bool -> List Tr3 -> Option Cps × List Bool
 | 0,arr,_ => (none,arr)
 | _ + 1,arr, [] => (none,arr)
 | f + 1,arr,t :: stk => match arr[idx t.pc t.at_]? with
  | some false => match stp t with
   | .found => (some t.c,arr.set (idx t.pc t.at_) true)
   | .more l => dfsF idx stp f (arr.set (idx t.pc t.at_) true) (l ++ stk)
  | _ => dfsF idx stp f arr stk
theorem step_len (code : List PIns) (gs : List (Nat × Nat)) (pl : List Int) (t : Tr3) : ∀ l,stepS code gs pl t = .more l -> l.length <= 2 := by
 intro l h;unfold stepS at h
 split at h
 ·cases h; simp
 ·repeat' split at h
  all_goals (first | (cases h; done) | (cases h; simp; done) | (cases h; split <;> simp))
def okT (p : Pg) (gs : List (Nat × Nat)) (t : Tr3) : Prop := t.pc < p.code.length /\ t.at_ <= gs.length
theorem step_ok {p : Pg} {gs : List (Nat × Nat)} {pl : List Int} (hR : RightQ p) {t : Tr3} (ht : okT p gs t) : ∀ l,stepS p.code gs pl t = .more l -> ∀ u ∈ l,okT p gs u := by
 intro l h u hu;obtain ⟨h1,h2⟩ := ht
 obtain ⟨i,hi⟩ : ∃ i,p.code[t.pc]? = some i := ⟨p.code[t.pc]'h1,List.getElem?_eq_getElem _⟩
 have hc := shaped_cases (hR.sh t.pc i hi);unfold stepS at h;rw [hi] at h;simp only at h
 split at h
 ·cases h
 ·split at h
  ·cases h;simp only [List.mem_cons,List.not_mem_nil,or_false] at hu
   rcases hu with rfl | rfl
   ·exact ⟨by show i.x.toNat < _; omega,h2⟩
   ·exact ⟨by show i.y.toNat < _; omega,h2⟩
  ·split at h
   ·cases h;simp only [List.mem_cons,List.not_mem_nil,or_false] at hu;subst hu;exact ⟨by show i.x.toNat < _; omega,h2⟩
   ·split at h
    ·cases h;simp only [List.mem_cons,List.not_mem_nil,or_false] at hu;subst hu;exact ⟨by show t.pc + 1 < _; omega,h2⟩
    ·split at h
     ·cases h
      split at hu
      ·simp only [List.mem_cons,List.not_mem_nil,or_false] at hu;subst hu;exact ⟨by show t.pc + 1 < _; omega,h2⟩
      ·cases hu
     ·split at h
      ·cases h
       split at hu
       ·simp only [List.mem_cons,List.not_mem_nil,or_false] at hu;subst hu;exact ⟨by show t.pc + 1 < _; omega,h2⟩
       ·cases hu
      ·cases h
       split at hu
       ·rename_i h8;simp only [List.mem_cons,List.not_mem_nil,or_false] at hu;subst hu;exact ⟨by show t.pc + 1 < _; omega,by show t.at_ + 1 <= _; omega⟩
       ·cases hu
theorem try_last (v : Tr3) (r : List Tr3) : ((v :: r).reverse.map tryC)[r.length]? = some (tryC v) := by
 rw [List.getElem?_map,List.reverse_cons,List.getElem?_append_right (by simp)]; simp
theorem try_pop (v : Tr3) (r : List Tr3) : (((v :: r).reverse.map tryC).take r.length).drop 0 = r.reverse.map tryC := by
 rw [List.reverse_cons,List.map_append,List.drop_zero,List.take_left' (by simp)]
def outC (r : Option Cps) : D := match r with
 | some c => .tup [.agg (capsC c), .bool true]
 | none => .tup [.agg (capsC zeroCaps), .bool false]
def idxP (n : Nat) (pc at_ : Nat) : Nat := at_ * n + pc
theorem from3_ev {N : Nat} {S st : St} {H : List Ent} {k : Nat} {p : Pg} {gs : List (Nat × Nat)} {plD seenD leftD : D} {pls : List Int} {old : List (List D)} {arr : List Bool} {start i : Nat} (hF : S.flr <= N) (hp : p.ok) (hR : RightQ p) (hgl : gs.length <= 1048576) (hpl : pls.length = gs.length + 1) (hsz : (gs.length + 1) * p.code.length <= 134217728) (hal : arr.length = (gs.length + 1) * p.code.length) (hst : start < p.code.length) (hi : i <= gs.length)
  (hH : Has N S st (.box k (.mem 0 false [p.cd,p.sd,gotsD gs,plD,seenD,leftD]) :: .lst leftD 12 old :: .lst plD 1 (pls.map intC) :: .lst seenD 1 (arr.map boolC) :: H)) :
  ∃ d st',Ev pv 60 [.ptr k 0 0, .int .i64 (start : Nat), .int .i64 (i : Nat)] st d st' /\ ∃ leftD' old',d = outC (dfsF (idxP p.code.length) (stepS p.code gs pls) (3 * arr.length + 1) arr [⟨start,i,noCaps⟩]).1 /\
   Has N S st' (.box k (.mem 0 false [p.cd,p.sd,gotsD gs,plD,seenD,leftD']) :: .lst leftD' 12 old' :: .lst plD 1 (pls.map intC) :: .lst seenD 1 ((dfsF (idxP p.code.length) (stepS p.code gs pls) (3 * arr.length + 1) arr [⟨start,i,noCaps⟩]).2.map boolC) :: H) := by
 have hlen := hp.cl
 obtain ⟨R,hR0⟩ : ∃ R,dfsF (idxP p.code.length) (stepS p.code gs pls) (3 * arr.length + 1) arr [⟨start,i,noCaps⟩] = R := ⟨_,rfl⟩
 rw [hR0];have hcl0 := List.count_le_length (a := false) (l := arr);refine Ev.mkE rfl fi60 rfl rfl rfl ?_;refine zE ?_;change EvC _ _ _ _ st _;refine zQ 2 ?_;refine qa hH fun k6 st hk6 hH => ?_;refine zQ 9 ?_;refine EvO.oslice hH rfl (ev rfl) (by exact at2) rfl rfl (bounds_to (n := 0) (by omega)) ⟨by omega,by omega⟩ (fun _ => (put_T rfl _)) (fun y17 hH => ?_);dsimp only [u1,u2,List.take_zero] at hH;rw [List.drop_nil] at hH;refine zQ 2 ?_;refine qv (Ev.prim rfl rfl) ?_;refine EvO.go (d := .agg (tryC ⟨start,i,noCaps⟩)) (st1 := _) rfl rfl rfl (put_T rfl _) ?_;refine qh (s := 12) (vs := [_]) hH fun k22 st hk22 hH => ?_;dsimp only [u2,u1,u3,u4,setMany,u5,u6,D.cells,Nat.reduceAdd,insC,intC,boolC,tryC,capsC,noCaps,zeroCaps] at hH;refine EvO.happend (s := 12) hH rfl (ev rfl) (ev rfl) (by exact at3) (by exact hH.rows (by exact at0)) rfl rfl rfl rfl rfl rfl rfl ⟨(Nat.le_of_ble_eq_true rfl),(Nat.le_of_ble_eq_true rfl)⟩ (fun _ => (put_T rfl _)) (by simp only [List.length_cons,List.length_nil,List.length_map] <;> omega) (by exact .inl hF) (fun x23 st hH => ?_);dsimp only [u2,u1,u3,u4,setMany,u5,u6,D.cells,Nat.reduceAdd,insC,intC,boolC,tryC,capsC,noCaps,zeroCaps] at hH;refine zQ 2 ?_;refine qT hH at2 (fun st hH => ?_) (hcs := hH.ocells at3);dsimp only [u2,u1,u3,u4,setMany,u5,u6,D.cells,Nat.reduceAdd,insC,intC,boolC,tryC,capsC,noCaps,zeroCaps] at hH;refine zQ 3 ?_;refine EvC.loop (fun mm fr st => ∃ (ld : D) (ar : List Bool) (stk : List Tr3),fr.clean = ⟨12, [.ptr k 0 0,ixF_Bb fr 1,ixF_Bb fr 2,ixF_Bb fr 3,ixF_Bb fr 4,ixF_Bb fr 5, .ptr k6 0 0, .bool false,ixF_Bb fr 8,ixF_Bb fr 9,ixF_Bb fr 10,ixF_Bb fr 11], []⟩ /\ Has N S st (.box k6 (.mem 0 false (capsC zeroCaps)) :: .box k (.mem 0 false [p.cd,p.sd,gotsD gs,plD,seenD,ld]) :: .lst ld 12 (stk.reverse.map tryC) :: .lst plD 1 (pls.map intC) :: .lst seenD 1 (ar.map boolC) :: H) /\ (dfsF (idxP p.code.length) (stepS p.code gs pls) mm ar stk = R) /\ (3 * ar.count false + stk.length <= mm) /\ (ar.length = (gs.length + 1) * p.code.length) /\ (∀ v ∈ stk,okT p gs v) /\ (mm <= 3 * arr.length + 1)) (3 * arr.length + 1) ?_ ?_
 ·exact ⟨_,arr, [⟨start,i,noCaps⟩],rfl,(by exact hH.drop 1),hR0,(by simp only [List.length_cons,List.length_nil]; omega),hal,(by intro v hv; simp only [List.mem_cons,List.not_mem_nil,or_false] at hv; subst hv; exact ⟨hst,hi⟩),Nat.le_refl _⟩
 rintro mm fr st ⟨ld,ar,stk,hfr,hH,hd,hm,hal,hsk,hmm⟩;rw [hfr];clear hfr;generalize ixF_Bb fr = ee;clear fr
 rcases stk with _ | ⟨v,stk⟩
 ·refine zQ 7 ?_;refine qn ?_ (hR := hH.rows at2);simp only [List.length_map,List.length_nil,List.length_reverse];refine zQ 2 ?_;refine EvC.cond (v := false) (by dsimp only [Fr.ev,Fr.get,nth,V.look]; rfl) (fun h => by cases h) (fun _ => ?_);refine zQ 3 ?_;refine EvO.go (d := .agg (capsC zeroCaps)) (st1 := _) rfl rfl rfl (put_T rfl _) ?_;refine qS hH at0 fun st hH => ?_;dsimp only [u2,u1,u3,u4,setMany,u5,u6,D.cells,Nat.reduceAdd,insC,intC,boolC,tryC,capsC,noCaps,zeroCaps] at hH;refine zQ 2 ?_;have hfin : R = (none,ar) := by rw [<- hd]; cases mm <;> rfl
  refine EvC.ret ⟨rx,_,_,_,hH.resCellT rfl at0 rfl rfl,rfl,?_⟩;rw [hfin];exact ⟨_,_,rfl,hH.drop 1⟩
 ·have hv := hsk v (List.mem_cons_self ..);obtain ⟨hv1,hv2⟩ := hv;have hst : ∀ w ∈ stk,okT p gs w := fun w hw => hsk w (List.mem_cons_of_mem _ hw);simp only [List.length_cons] at hm
  obtain ⟨mm,rfl⟩ : ∃ m',mm = m' + 1 := ⟨mm - 1,by omega⟩
  have hbd : v.at_ * p.code.length + v.pc < ar.length := by
   have h1 : (v.at_ + 1) * p.code.length <= (gs.length + 1) * p.code.length := Nat.mul_le_mul_right _ (by omega);rw [Nat.add_mul,Nat.one_mul] at h1;omega
  obtain ⟨b,hb⟩ : ∃ b,ar[idxP p.code.length v.pc v.at_]? = some b := ⟨ar[idxP p.code.length v.pc v.at_]'hbd,List.getElem?_eq_getElem _⟩
  obtain ⟨ii,hii⟩ : ∃ x,p.code[v.pc]? = some x := ⟨p.code[v.pc]'hv1,List.getElem?_eq_getElem _⟩
  have hsok := fun l => step_ok (pl := pls) hR (t := v) ⟨hv1,hv2⟩ l;have hsln := step_len p.code gs pls v;have hr1 := try_last v stk;have hr2 := bool_get hb
  obtain ⟨m,hm0⟩ : ∃ m,v.at_ * p.code.length = m := ⟨_,rfl⟩
  have hix : idxP p.code.length v.pc v.at_ = m + v.pc := by unfold idxP; rw [hm0]
  rw [hm0] at hbd;rw [hix] at hr2;have hca := hp.c.arg N S;refine zQ 7 ?_;refine qn ?_ (hR := hH.rows at2);simp only [List.length_map,List.length_cons,List.length_reverse];refine zQ 2 ?_;refine qD rfl (by simp) ?_;refine zQ 12 ?_;refine qn ?_ (hR := hH.rows at2);simp only [List.length_map,List.length_cons,List.length_reverse];refine EvO.subZ (z := ((stk.length : Nat) : Int)) rfl (ev rfl) (ev rfl) (by (try simp only [List.length_reverse,List.length_cons,List.length_nil,List.length_append,List.length_map,List.length_set]); rw [wrap_i64 (by omega) (by omega)] <;> omega) (put_T rfl _) ?_;refine qi hH at2 fun p42 hp42 => ?_;refine EvO.oloadS hH rfl (ev rfl) (by assumption) (by exact at2) (by assumption) rfl (put_T rfl _) ?_;refine qa hH fun k8 st hk8 hH => ?_;dsimp only [u2,u1,u3,u4,setMany,u5,u6,D.cells,Nat.reduceAdd,insC,intC,boolC,tryC,capsC,noCaps,zeroCaps] at hH;refine qS hH at0 fun st hH => ?_;dsimp only [u2,u1,u3,u4,setMany,u5,u6,D.cells,Nat.reduceAdd,insC,intC,boolC,tryC,capsC,noCaps,zeroCaps] at hH;refine zQ 12 ?_;refine qn ?_ (hR := hH.rows at3);simp only [List.length_map,List.length_cons,List.length_reverse];refine EvO.subZ (z := ((stk.length : Nat) : Int)) rfl (ev rfl) (ev rfl) (by (try simp only [List.length_reverse,List.length_cons,List.length_nil,List.length_append,List.length_map,List.length_set]); rw [wrap_i64 (by omega) (by omega)] <;> omega) (put_T rfl _) ?_;refine EvO.oslice hH rfl (ev rfl) (by exact at3) rfl rfl (bounds_to (by simp only [List.length_map,List.length_reverse,List.length_cons,List.length_append,List.length_nil,List.length_take,List.length_drop,List.length_set,List.length_replicate]; omega)) ⟨(by omega),(by simp only [List.length_map,List.length_reverse,List.length_cons,List.length_append,List.length_nil,List.length_take,List.length_drop,List.length_set,List.length_replicate]; omega)⟩ (fun _ => (put_T rfl _)) (fun y55 hH => ?_);refine zQ 2 ?_;refine qT hH at2 (fun st hH => ?_) (hcs := hH.ocells at3);dsimp only [u2,u1,u3,u4,setMany,u5,u6,D.cells,Nat.reduceAdd,insC,intC,boolC,tryC,capsC,noCaps,zeroCaps] at hH;refine zQ 1 ?_;rw [try_pop] at hH;refine zQ 9 ?_;refine qn ?_;simp only [List.length_map];refine EvO.mulZ (z := ((m : Nat) : Int)) rfl (ev rfl) (ev rfl) (by rw [<- Int.natCast_mul,hm0]; exact wrap_nat (by simp only [maxN]; omega)) (put_T rfl _) ?_;refine zQ 2 ?_;refine EvO.addN rfl (ev rfl) (ev rfl) (by omega) (put_T rfl _) ?_;refine zQ 10 ?_;refine qi hH at5 fun p75 hp75 => ?_;refine zQ 2 ?_
  cases b with
  | true =>
   refine zQ 2 ?_;simp only [dfsF,hb] at hd;exact ⟨mm,by omega,⟨_,ar,stk,rfl,(hH.drop 1),hd,by omega,hal,hst,by omega⟩⟩
  | false =>
   have hcnt := count_set hb;have hset : (ar.set (idxP p.code.length v.pc v.at_) true).map boolC = (ar.map boolC).set (m + v.pc) [.bool true] := by rw [List.map_set,hix]; rfl
   simp only [dfsF,hb] at hd;refine zQ 9 ?_;refine qi hH at5 fun p82 hp82 => ?_;refine EvO.ostore hH rfl (ev rfl) (ev rfl) (by assumption) rfl rfl (by exact at5) (by assumption) (Nat.le_of_ble_eq_true rfl) (by exact .inl hF) (fun st hH => ?_);dsimp only [u2,u1,u3,u4,setMany,u5,u6,D.cells,Nat.reduceAdd,insC,intC,boolC,tryC,capsC,noCaps,zeroCaps] at hH;refine zQ 1 ?_
   have hH3 : Has N S st (.box k (.mem 0 false [p.cd,p.sd,gotsD gs,plD,seenD,y55]) :: .lst y55 12 (stk.reverse.map tryC) :: .lst plD 1 (pls.map intC) :: .box k6 (.mem 0 false (capsC zeroCaps)) :: .lst seenD 1 ((ar.map boolC).set (m + v.pc) [.bool true]) :: H) :=
    (((hH.drop 1).front (j := 3) rfl).front (j := 3) rfl).front (j := 3) rfl
   obtain ⟨d,st1,hev,hpost⟩ := step_ev hF hp hii (hR.sh v.pc ii hii) hgl hv2 hpl (by omega) hH3;unfold stepPost at hpost
   cases hS : stepS p.code gs pls v with
   | found =>
    rw [hS] at hpost hd;simp only at hpost hd;obtain ⟨rfl,ld',hH4⟩ := hpost;have hH4 := hH4.front (j := 3) rfl;refine zQ 3 ?_;refine EvO.hloadS (m := 12) hH rfl (ev rfl) (by exact at0) (by dsimp only [List.drop_succ_cons,List.drop_zero,List.take_succ_cons,List.take_zero,insC,intC,boolC,tryC,capsC,noCaps,zeroCaps] <;> rfl) rfl rfl (put_T rfl _) ?_;refine qv (hev) ?_;refine zQ 3 ?_;refine EvO.halloc hH4 rfl rfl (fun _ => by dsimp only [Fr.put,u1,u2] <;> rfl) (fun k10 st hk10 hH => ?_);dsimp only [capsC,zeroCaps] at hH;refine qT hH at0 fun st hH => ?_;dsimp only [u2,u1,u3,u4,setMany,u5,u6,D.cells,Nat.reduceAdd,insC,intC,boolC,tryC,capsC,noCaps,zeroCaps] at hH;refine zQ 9 ?_;refine EvO.hloadS (m := 10) hH rfl (ev rfl) (by exact at0) (by dsimp only [List.drop_succ_cons,List.drop_zero,List.take_succ_cons,List.take_zero,insC,intC,boolC,tryC,capsC,noCaps,zeroCaps] <;> rfl) rfl rfl (put_T rfl _) ?_;refine qS hH at1 fun st hH => ?_;dsimp only [u2,u1,u3,u4,setMany,u5,u6,D.cells,Nat.reduceAdd,insC,intC,boolC,tryC,capsC,noCaps,zeroCaps] at hH;refine zQ 2 ?_;refine EvC.ret ⟨rx,_,_,_,hH.resCellT rfl at1 rfl rfl,rfl,?_⟩;rw [<- hd];exact ⟨_,_,rfl,(by rw [hset]; exact hH.drop 2)⟩
   | more l =>
    rw [hS] at hpost hd;simp only at hpost hd;obtain ⟨rfl,ld',hH4⟩ := hpost;have hH4 := hH4.front (j := 3) rfl;have hl2 := hsln l hS;refine zQ 3 ?_;refine EvO.hloadS (m := 12) hH rfl (ev rfl) (by exact at0) (by dsimp only [List.drop_succ_cons,List.drop_zero,List.take_succ_cons,List.take_zero,insC,intC,boolC,tryC,capsC,noCaps,zeroCaps] <;> rfl) rfl rfl (put_T rfl _) ?_;refine qv (hev) ?_;refine zQ 3 ?_;refine EvO.halloc hH4 rfl rfl (fun _ => by dsimp only [Fr.put,u1,u2] <;> rfl) (fun k10 st hk10 hH => ?_);dsimp only [capsC,zeroCaps] at hH;refine qT hH at0 fun st hH => ?_;dsimp only [u2,u1,u3,u4,setMany,u5,u6,D.cells,Nat.reduceAdd,insC,intC,boolC,tryC,capsC,noCaps,zeroCaps] at hH;refine zQ 8 ?_;refine ⟨mm,by omega,⟨_,ar.set (idxP p.code.length v.pc v.at_) true,l ++ stk,rfl,(by rw [hset]; exact hH.drop 1),hd,by simp only [List.length_append]; omega,by rw [List.length_set]; exact hal,?_,by omega⟩⟩;intro w hw
    rcases List.mem_append.1 hw with hw | hw
    ·exact hsok l hS w hw
    ·exact hst w hw
def ixF_Bc (fr : Go.V.Fr) (k : Nat) : Go.V.D := Go.V.nth .junk fr.loc k
def plS : Int -> List (Nat × Nat) -> List Int
 | a, [] => [a]
 | a,g :: r => a :: plS (a + (g.2 : Nat)) r
theorem plS_len : ∀ (l : List (Nat × Nat)) (a : Int),(plS a l).length = l.length + 1
 | [],_ => rfl
 | g :: r,a => by simp only [plS,List.length_cons,plS_len r]
def findP (idx : Nat -> Nat -> Nat) (stp : Tr3 -> Res) (fuel start : Nat) : Nat -> Nat -> List Bool -> Option Cps
 | 0,_,_ => none
 | m + 1,i,arr => match (dfsF idx stp fuel arr [⟨start,i,noCaps⟩]).1 with
  | some c => some c
  | none => findP idx stp fuel start m (i + 1) (dfsF idx stp fuel arr [⟨start,i,noCaps⟩]).2
noncomputable def progFind (p : Pg) (rule : Int) (b : List UInt8) : Option Cps :=
 if dec (RightQ p) = true /\ 0 <= rule /\ rule < (p.starts.length : Int) then
  findP (idxP p.code.length) (stepS p.code (allS b) (plS 0 (allS b))) (3 * (((allS b).length + 1) * p.code.length) + 1) (p.starts.getD rule.toNat 0).toNat ((allS b).length + 1) 0 (List.replicate (((allS b).length + 1) * p.code.length) false)
 else none
theorem dfsF_len (idx : Nat -> Nat -> Nat) (stp : Tr3 -> Res) : ∀ (f : Nat) (arr : List Bool) (stk : List Tr3),(dfsF idx stp f arr stk).2.length = arr.length
 | 0,arr,_ => by simp [dfsF]
 | f + 1,arr, [] => by simp [dfsF]
 | f + 1,arr,t :: stk => by
  unfold dfsF
  split
  ·split
   ·simp
   ·rw [dfsF_len idx stp f,List.length_set]
  ·exact dfsF_len idx stp f arr stk
theorem find3_ev {s0 : St} {p : Pg} {b : List UInt8} (hp : p.ok) (rule : Int) (hbl : b.length <= 1048576) (hsz : ((allS b).length + 1) * p.code.length <= 134217728) :
  Ev pv 27 [p.d, .int .i64 rule, .str b] s0 (outC (progFind p rule b)) s0 := by
 obtain ⟨hgl,hgs⟩ := allS_len _ b (Nat.le_refl _);have hev : ∀ (st : St) (x : D),Bytes st x b -> Ev pv 28 [x] st (gotsD (allS b)) st := fun st x h => all_ev h hbl;unfold progFind;generalize allS b = gs at *;refine Ev.mk1 rfl fi27 rfl rfl rfl ?_;refine zE ?_;obtain ⟨hSb,hF,hH⟩ := ri s0;generalize enterSt .ro s0 = S at *;have hc := hp.c.arg s0.bs.length S;have hs := hp.s.arg s0.bs.length S;have hlen := hp.cl;have hsl := hp.sl;unfold Pg.d;refine zQ 2 ?_;refine qb hH fun k3 st hk3 hH => ?_;refine qa hH fun k6 st hk6 hH => ?_;refine zQ 4 ?_;refine EvC.cutL 28 (.bool ((!dec (RightQ p) || decide (rule < 0)) || decide (rule >= p.starts.length))) [15,16,17,18,19,20,21,22,23,24,25,26,27] ?_ (fun ff tmp => ?_)
 ·refine EvO.hloadS (m := 2) hH rfl (ev rfl) (by exact at1) (by dsimp only [List.drop_succ_cons,List.drop_zero,List.take_succ_cons,List.take_zero,insC,intC,boolC,tryC,capsC,noCaps,zeroCaps] <;> rfl) rfl rfl (by dsimp only [Fr.put,u1,u2] <;> rfl) ?_;refine qv (checkRight_ev (p := p) hp) ?_;refine zQ 2 ?_;refine EvO.two 18 rfl (fun hg3 => ?_) (fun hg3 => ?_)
  ·refine zQ 10 ?_;refine EvO.nil (leafL ?_);dsimp only [setW,List.foldl,nth,u2,u1];dsimp only [Fr.putO,Fr.put,Fr.clean,Fr.ev,Fr.get,nth,look,u1,u2,v1,v2,v4]
   all_goals (simp [hg3]; done)
  ·refine zQ 4 ?_;refine EvO.two 22 rfl (fun hg7 => ?_) (fun hg7 => ?_)
   ·refine zQ 6 ?_;refine EvO.nil (leafL ?_);dsimp only [setW,List.foldl,nth,u2,u1];dsimp only [Fr.putO,Fr.put,Fr.clean,Fr.ev,Fr.get,nth,look,u1,u2,v1,v2,v4]
    all_goals (simp [hg3,hg7]; done)
   ·refine zQ 3 ?_;refine qn ?_ (hg := wi hg7);simp only [List.length_map];refine zQ 2 ?_;refine EvO.nil (leafL ?_);dsimp only [setW,List.foldl,nth,u2,u1];dsimp only [Fr.putO,Fr.put,Fr.clean,Fr.ev,Fr.get,nth,look,u1,u2,v1,v2,v4]
    all_goals (simp [hg3,hg7]; done)
 dsimp only [setW,List.foldl,nth,u2,u1];generalize ff 15 = e15;generalize ff 16 = e16;generalize ff 17 = e17;generalize ff 18 = e18;generalize ff 19 = e19;generalize ff 20 = e20;generalize ff 21 = e21;generalize ff 22 = e22;generalize ff 23 = e23;generalize ff 24 = e24;generalize ff 25 = e25;generalize ff 26 = e26;generalize ff 27 = e27;refine qc (fun h0 => ?_) (fun h0 => ?_) <;> try simp only [cs] at h0
 ·have hn : ¬ (dec (RightQ p) = true /\ 0 <= rule /\ rule < (p.starts.length : Int)) := by
   rintro ⟨h1,h2,h3⟩;rw [h1] at h0;simp at h0; omega
  rw [if_neg hn];refine zQ 2 ?_;refine EvO.go (d := .agg (capsC zeroCaps)) (st1 := _) rfl rfl rfl (by dsimp only [Fr.put,u1,u2] <;> rfl) ?_;refine qS hH at0 fun st hH => ?_;dsimp only [u2,u1,u3,u4,setMany,u5,u6,D.cells,Nat.reduceAdd,insC,intC,boolC,tryC,capsC,noCaps,zeroCaps] at hH;refine zQ 2 ?_;refine EvC.ret ⟨rx,_,hH.resCellT rfl at0 rfl rfl,rl hSb hH rfl⟩
 ·have h1 : RightQ p /\ 0 <= rule /\ rule < (p.starts.length : Int) := by
   simp only [Bool.or_eq_false_iff,Bool.not_eq_false',decide_eq_false_iff_not] at h0;exact ⟨dec_true h0.1.1,by omega,by omega⟩
  obtain ⟨hR,hin0,hin1⟩ := h1;rw [if_pos ⟨dec_yes hR,hin0,hin1⟩];obtain ⟨ru,rfl⟩ := Int.eq_ofNat_of_zero_le hin0
  obtain ⟨start,hs1⟩ : ∃ v,p.starts[ru]? = some v := ⟨p.starts[ru]'(by omega),List.getElem?_eq_getElem _⟩
  have hst := hR.st start (List.mem_of_getElem? hs1);obtain ⟨sn,rfl⟩ := Int.eq_ofNat_of_zero_le hst.1
  have hgd : (p.starts.getD ((ru : Nat) : Int).toNat 0).toNat = sn := by
   rw [Int.toNat_natCast,List.getD_eq_getElem?_getD,hs1]; rfl
  rw [hgd];have hr0 := int_get hs1;have hgr : Arg s0.bs.length S 2 (gotsD gs) (gs.map gotC) := Arg.pure (fun st => gots_rows st gs);refine zQ 3 ?_;refine EvO.hloadS (m := 2) hH rfl (ev rfl) (by exact at1) (by dsimp only [List.drop_succ_cons,List.drop_zero,List.take_succ_cons,List.take_zero,insC,intC,boolC,tryC,capsC,noCaps,zeroCaps] <;> rfl) rfl rfl (by dsimp only [Fr.put,u1,u2] <;> rfl) ?_;refine qm ?_;refine EvO.hbytes hH rfl rfl rfl rfl rfl (by omega) (fun _ => by dsimp only [Fr.put,u1,u2] <;> rfl) (fun k32 st hk32 hH => ?_);refine qv ((hev _ _ (hH.rows at0))) ?_;refine EvO.go (d := .agg [p.cd,p.sd,gotsD gs, .nul, .nul, .nul]) (st1 := _) rfl rfl rfl (by dsimp only [Fr.put,u1,u2] <;> rfl) ?_;refine qb hH fun k35 st hk35 hH => ?_;refine zQ 13 ?_;refine qn ?_;simp only [List.length_map];refine zQ 3 ?_;refine EvC.loop (fun mm fr st => ∃ (i : Nat) (a : Int) (done : List Int) (pd : D),fr.clean = ⟨89, [ixF_Bc fr 0, .int .i64 (ru : Nat),ixF_Bc fr 2, .ptr k3 0 0,ixF_Bc fr 4,ixF_Bc fr 5, .ptr k6 0 0, .bool false, .ptr k35 0 0, .int .i64 a,ixF_Bc fr 10,ixF_Bc fr 11,ixF_Bc fr 12,ixF_Bc fr 13,ixF_Bc fr 14,ixF_Bc fr 15,ixF_Bc fr 16,ixF_Bc fr 17,ixF_Bc fr 18,ixF_Bc fr 19,ixF_Bc fr 20,ixF_Bc fr 21,ixF_Bc fr 22,ixF_Bc fr 23,ixF_Bc fr 24,ixF_Bc fr 25,ixF_Bc fr 26,ixF_Bc fr 27,ixF_Bc fr 28,ixF_Bc fr 29,ixF_Bc fr 30,ixF_Bc fr 31,ixF_Bc fr 32,ixF_Bc fr 33,ixF_Bc fr 34,ixF_Bc fr 35,ixF_Bc fr 36,ixF_Bc fr 37,ixF_Bc fr 38,gotsD gs, .int .i64 (gs.length : Nat), .int .i64 (i : Nat),ixF_Bc fr 42,ixF_Bc fr 43,ixF_Bc fr 44,ixF_Bc fr 45,ixF_Bc fr 46,ixF_Bc fr 47,ixF_Bc fr 48,ixF_Bc fr 49,ixF_Bc fr 50,ixF_Bc fr 51,ixF_Bc fr 52,ixF_Bc fr 53,ixF_Bc fr 54,ixF_Bc fr 55,ixF_Bc fr 56,ixF_Bc fr 57,ixF_Bc fr 58,ixF_Bc fr 59,ixF_Bc fr 60,ixF_Bc fr 61,ixF_Bc fr 62,ixF_Bc fr 63,ixF_Bc fr 64,ixF_Bc fr 65,ixF_Bc fr 66,ixF_Bc fr 67,ixF_Bc fr 68,ixF_Bc fr 69,ixF_Bc fr 70,ixF_Bc fr 71,ixF_Bc fr 72,ixF_Bc fr 73,ixF_Bc fr 74,ixF_Bc fr 75,ixF_Bc fr 76,ixF_Bc fr 77,ixF_Bc fr 78,ixF_Bc fr 79,ixF_Bc fr 80,ixF_Bc fr 81,ixF_Bc fr 82,ixF_Bc fr 83,ixF_Bc fr 84,ixF_Bc fr 85,ixF_Bc fr 86,ixF_Bc fr 87,ixF_Bc fr 88], []⟩ /\ Has s0.bs.length S st [.box k35 (.mem 0 false [p.cd,p.sd,gotsD gs,pd, .nul, .nul]), .lst pd 1 (done.map intC), .box k6 (.mem 0 false (capsC zeroCaps)), .box k3 (.mem 0 false [p.cd,p.sd])] /\ (i + mm = gs.length) /\ (done ++ plS a (gs.drop i) = plS 0 gs) /\ (0 <= a) /\ (a <= 1048576 * i) /\ (done.length = i)) (gs.length) ?_ ?_
  ·refine ⟨0,0, [], .nul,rfl,?_,by omega,rfl,Int.le_refl _,(by omega),rfl⟩;exact (((hH.drop 0).erase 1).nulE 1).front (j := 1) rfl
  rintro mm fr st ⟨i,a,done,pd,hfr,hH,hi,hdn,ha0,ha1,hdl⟩;rw [hfr];clear hfr;generalize ixF_Bc fr = ee;clear fr;refine zQ 5 ?_;refine zP (fun h3 => ?_) fun h3 => ?_
  ·refine zQ 1 ?_
   obtain ⟨g,hg⟩ : ∃ g,gs[i]? = some g := ⟨gs[i]'(by omega),List.getElem?_eq_getElem _⟩
   have hg2 := hgs g (List.mem_of_getElem? hg);have hr1 : (gs.map gotC)[i]? = some (gotC g) := by rw [List.getElem?_map,hg]; rfl
   have hdr : gs.drop i = g :: gs.drop (i + 1) := by
    have := List.drop_eq_getElem_cons (l := gs) (i := i) (by omega);rw [this]; congr 1;rw [List.getElem?_eq_getElem (by omega)] at hg;exact Option.some.inj hg
   refine zQ 4 ?_;refine qr fun p43 hp43 => ?_;refine EvO.rloadS rfl (ev rfl) (by assumption) rfl (by dsimp only [Fr.put,u1,u2] <;> rfl) ?_;refine qa hH fun k11 st hk11 hH => ?_;dsimp only [u2,u1,u3,u4,setMany,u5,u6,D.cells,Nat.reduceAdd,insC,intC,boolC,tryC,capsC,noCaps,zeroCaps] at hH;refine qS hH at0 fun st hH => ?_;dsimp only [u2,u1,u3,u4,setMany,u5,u6,D.cells,Nat.reduceAdd,insC,intC,boolC,tryC,capsC,noCaps,zeroCaps] at hH;refine zQ 9 ?_;refine qh (s := 1) (vs := [_]) hH fun k51 st hk51 hH => ?_;refine qP hH at3 (hH.rows at0) fun x52 st hH => ?_;dsimp only [u2,u1,u3,u4,setMany,u5,u6,D.cells,Nat.reduceAdd,insC,intC,boolC,tryC,capsC,noCaps,zeroCaps] at hH;refine zQ 2 ?_;refine qT hH at2 (fun st hH => ?_) (hcs := hH.ocells at3);dsimp only [u2,u1,u3,u4,setMany,u5,u6,D.cells,Nat.reduceAdd,insC,intC,boolC,tryC,capsC,noCaps,zeroCaps] at hH;refine zQ 12 ?_;exact ⟨mm - 1,by omega,⟨i + 1,a + (g.2 : Nat),done ++ [a],x52,rfl,(by rw [List.map_append]; exact hH.drop 2),by omega,by rw [<- hdn,hdr]; simp [plS],by omega,by omega,by simp [hdl]⟩⟩
  ·refine zQ 1 ?_;have hdr : gs.drop i = [] := List.drop_eq_nil_of_le (by omega);rw [hdr] at hdn;simp only [plS] at hdn;have hpl := plS_len gs 0;refine zQ 8 ?_;refine qh (s := 1) (vs := [_]) hH fun k66 st hk66 hH => ?_;dsimp only [u2,u1,u3,u4,setMany,u5,u6,D.cells,Nat.reduceAdd,insC,intC,boolC,tryC,capsC,noCaps,zeroCaps] at hH;refine qP hH at2 (hH.rows at0) fun x67 st hH => ?_;dsimp only [u2,u1,u3,u4,setMany,u5,u6,D.cells,Nat.reduceAdd,insC,intC,boolC,tryC,capsC,noCaps,zeroCaps] at hH;refine zQ 2 ?_;refine qT hH at1 (fun st hH => ?_) (hcs := hH.ocells at2);dsimp only [u2,u1,u3,u4,setMany,u5,u6,D.cells,Nat.reduceAdd,insC,intC,boolC,tryC,capsC,noCaps,zeroCaps] at hH;refine zQ 1 ?_
   have hH : Has s0.bs.length S st [.box k35 (.mem 0 false [p.cd,p.sd,gotsD gs,x67, .nul, .nul]), .lst x67 1 ((plS 0 gs).map intC), .box k6 (.mem 0 false (capsC zeroCaps)), .box k3 (.mem 0 false [p.cd,p.sd])] := by
    rw [<- hdn,List.map_append]; exact hH.drop 1
   rw [<- hpl] at hsz ⊢;generalize plS 0 gs = pls at *;refine zQ 7 ?_;refine qn ?_ (hR := hH.rows at1);simp only [List.length_map];refine zQ 2 ?_;refine qn ?_;simp only [List.length_map];refine EvO.mulZ (z := ((pls.length * p.code.length : Nat) : Int)) rfl (ev rfl) (ev rfl) (by rw [<- Int.natCast_mul]; exact wrap_nat (by simp only [maxN]; omega)) (by dsimp only [Fr.put,u1,u2] <;> rfl) ?_;refine EvO.hmake (s := 1) hH rfl rfl rfl rfl rfl rfl rfl rfl (Nat.le_of_ble_eq_true rfl) (by omega) (fun _ => by dsimp only [Fr.put,u1,u2] <;> rfl) (fun k80 st hk80 hH => ?_);dsimp only [u2,u1,u3,u4,setMany,u5,u6,D.cells,Nat.reduceAdd,insC,intC,boolC,tryC,capsC,noCaps,zeroCaps] at hH;refine zQ 2 ?_;refine qT hH at1 fun st hH => ?_;dsimp only [u2,u1,u3,u4,setMany,u5,u6,D.cells,Nat.reduceAdd,insC,intC,boolC,tryC,capsC,noCaps,zeroCaps] at hH;refine zQ 8 ?_;refine qn ?_ (hR := hH.rows at2);simp only [List.length_map];refine zQ 2 ?_
   obtain ⟨R,hR0⟩ : ∃ R,findP (idxP p.code.length) (stepS p.code gs pls) (3 * (pls.length * p.code.length) + 1) sn pls.length 0 (List.replicate (pls.length * p.code.length) false) = R := ⟨_,rfl⟩
   rw [hR0];refine zQ 1 ?_;refine EvC.loop (fun mm fr st => ∃ (i : Nat) (ar : List Bool) (ld : D) (old : List (List D)),fr.clean = ⟨89, [ixF_Bc fr 0, .int .i64 (ru : Nat),ixF_Bc fr 2, .ptr k3 0 0,ixF_Bc fr 4,ixF_Bc fr 5, .ptr k6 0 0, .bool false, .ptr k35 0 0,ixF_Bc fr 9,ixF_Bc fr 10,ixF_Bc fr 11,ixF_Bc fr 12,ixF_Bc fr 13,ixF_Bc fr 14,ixF_Bc fr 15,ixF_Bc fr 16,ixF_Bc fr 17,ixF_Bc fr 18,ixF_Bc fr 19,ixF_Bc fr 20,ixF_Bc fr 21,ixF_Bc fr 22,ixF_Bc fr 23,ixF_Bc fr 24,ixF_Bc fr 25,ixF_Bc fr 26,ixF_Bc fr 27,ixF_Bc fr 28,ixF_Bc fr 29,ixF_Bc fr 30,ixF_Bc fr 31,ixF_Bc fr 32,ixF_Bc fr 33,ixF_Bc fr 34,ixF_Bc fr 35,ixF_Bc fr 36,ixF_Bc fr 37,ixF_Bc fr 38,ixF_Bc fr 39,ixF_Bc fr 40,ixF_Bc fr 41,ixF_Bc fr 42,ixF_Bc fr 43,ixF_Bc fr 44,ixF_Bc fr 45,ixF_Bc fr 46,ixF_Bc fr 47,ixF_Bc fr 48,ixF_Bc fr 49,ixF_Bc fr 50,ixF_Bc fr 51,ixF_Bc fr 52,ixF_Bc fr 53,ixF_Bc fr 54,ixF_Bc fr 55,ixF_Bc fr 56,ixF_Bc fr 57,ixF_Bc fr 58,ixF_Bc fr 59,ixF_Bc fr 60,ixF_Bc fr 61,ixF_Bc fr 62,ixF_Bc fr 63,ixF_Bc fr 64,ixF_Bc fr 65,ixF_Bc fr 66,ixF_Bc fr 67,ixF_Bc fr 68,ixF_Bc fr 69,ixF_Bc fr 70,ixF_Bc fr 71,ixF_Bc fr 72,ixF_Bc fr 73,ixF_Bc fr 74,ixF_Bc fr 75,ixF_Bc fr 76,ixF_Bc fr 77,ixF_Bc fr 78,ixF_Bc fr 79,ixF_Bc fr 80,ixF_Bc fr 81,ixF_Bc fr 82,ixF_Bc fr 83,ixF_Bc fr 84,ixF_Bc fr 85,ixF_Bc fr 86, .int .i64 (pls.length : Nat), .int .i64 (i : Nat)], []⟩ /\ Has s0.bs.length S st [.box k35 (.mem 0 false [p.cd,p.sd,gotsD gs,x67, .win k80 0 0 (pls.length * p.code.length) 1,ld]), .lst ld 12 old, .lst x67 1 (pls.map intC), .lst (.win k80 0 0 (pls.length * p.code.length) 1) 1 (ar.map boolC), .box k6 (.mem 0 false (capsC zeroCaps)), .box k3 (.mem 0 false [p.cd,p.sd])] /\ (i + mm = pls.length) /\ (ar.length = pls.length * p.code.length) /\ (findP (idxP p.code.length) (stepS p.code gs pls) (3 * (pls.length * p.code.length) + 1) sn mm i ar = R)) (pls.length) ?_ ?_
   ·refine ⟨0,List.replicate (pls.length * p.code.length) false, .nul, [],rfl,?_,by omega,by rw [List.length_replicate],hR0⟩;rw [List.map_replicate];exact ((hH.front (j := 2) rfl).nulE 12).front (j := 3) rfl
   rintro mm fr st ⟨i,ar,ld,old,hfr,hH,hi,har,hfd⟩;rw [hfr];clear hfr;generalize ixF_Bc fr = ee;clear fr;refine zQ 5 ?_;refine zP (fun h4 => ?_) fun h4 => ?_
   ·refine zQ 1 ?_
    obtain ⟨mm,rfl⟩ : ∃ m',mm = m' + 1 := ⟨mm - 1,by omega⟩
    refine zQ 7 ?_;obtain ⟨d,st1,hev,ld',old',hd,hH2⟩ := from3_ev (start := sn) (i := i) hF hp hR (by omega) hpl (by rw [<- hpl]; exact hsz) (by rw [<- hpl]; exact har) (by omega) (by omega) hH;rw [har] at hd hH2
    cases hD : (dfsF (idxP p.code.length) (stepS p.code gs pls) (3 * (pls.length * p.code.length) + 1) ar [⟨sn,i,noCaps⟩]).1 with
    | some c =>
     simp only [findP,hD] at hfd;rw [hD] at hd;have hd : d = .tup [.agg (capsC c), .bool true] := hd;subst hd;refine zQ 6 ?_;refine qr fun p96 hp96 => ?_;refine zQ 2 ?_;refine qv (hev) ?_;refine zQ 3 ?_;refine EvO.halloc hH2 rfl rfl (fun _ => by dsimp only [Fr.put,u1,u2] <;> rfl) (fun k13 st hk13 hH => ?_);dsimp only [capsC,zeroCaps] at hH;refine qT hH at0 fun st hH => ?_;dsimp only [u2,u1,u3,u4,setMany,u5,u6,D.cells,Nat.reduceAdd,insC,intC,boolC,tryC,capsC,noCaps,zeroCaps] at hH;refine zQ 9 ?_;refine EvO.hloadS (m := 10) hH rfl (ev rfl) (by exact at0) (by dsimp only [List.drop_succ_cons,List.drop_zero,List.take_succ_cons,List.take_zero,insC,intC,boolC,tryC,capsC,noCaps,zeroCaps] <;> rfl) rfl rfl (put_T rfl _) ?_;refine qS hH at5 fun st hH => ?_;dsimp only [u2,u1,u3,u4,setMany,u5,u6,D.cells,Nat.reduceAdd,insC,intC,boolC,tryC,capsC,noCaps,zeroCaps] at hH;refine zQ 2 ?_;rw [<- hfd];refine EvC.ret ⟨rx,_,hH.resCellT rfl at5 rfl rfl,rl hSb hH rfl⟩
    | none =>
     have hlen2 := dfsF_len (idxP p.code.length) (stepS p.code gs pls) (3 * (pls.length * p.code.length) + 1) ar [⟨sn,i,noCaps⟩];simp only [findP,hD] at hfd;rw [hD] at hd;have hd : d = .tup [.agg (capsC zeroCaps), .bool false] := hd;subst hd;refine zQ 6 ?_;refine qr fun p96 hp96 => ?_;refine zQ 2 ?_;refine qv (hev) ?_;refine zQ 3 ?_;refine EvO.halloc hH2 rfl rfl (fun _ => by dsimp only [Fr.put,u1,u2] <;> rfl) (fun k13 st hk13 hH => ?_);dsimp only [capsC,zeroCaps] at hH;refine qT hH at0 fun st hH => ?_;dsimp only [u2,u1,u3,u4,setMany,u5,u6,D.cells,Nat.reduceAdd,insC,intC,boolC,tryC,capsC,noCaps,zeroCaps] at hH;refine zQ 12 ?_;exact ⟨mm,by omega,⟨i + 1,_,ld',old',rfl,(hH.drop 1),by omega,by rw [hlen2]; exact har,hfd⟩⟩
   ·refine zQ 3 ?_;refine EvO.go (d := .agg (capsC zeroCaps)) (st1 := _) rfl rfl rfl (put_T rfl _) ?_;refine qS hH at4 fun st hH => ?_;dsimp only [u2,u1,u3,u4,setMany,u5,u6,D.cells,Nat.reduceAdd,insC,intC,boolC,tryC,capsC,noCaps,zeroCaps] at hH;refine zQ 2 ?_
    have hfin : R = none := by
     have : mm = 0 := by omega
     subst this;rw [<- hfd]; rfl
    rw [hfin];refine EvC.ret ⟨rx,_,hH.resCellT rfl at4 rfl rfl,rl hSb hH rfl⟩
structure Lab (X : Nat -> Prop) (c : List PIns) (b : Nat) (A : Nat -> Prop) (g : Nat -> Nat -> Prop) : Prop where
  hd : g b = A
  tl : g (b + c.length) = A
  xs : ∀ n,X n -> b <= n -> n <= b + c.length -> g n = A
  st : ∀ j i,c[j]? = some i -> (∀ v ∈ nextS (b + j) i, ∃ n : Nat,v = (n : Int) /\ ((b <= n /\ n <= b + c.length /\ ∀ s,g n s -> g (b + j) s \/ (i.op = 4 /\ i.x = (s : Int))) \/ (X n /\ ∀ s,A s -> g (b + j) s \/ (i.op = 4 /\ i.x = (s : Int))))) /\
    i.op ≠ 7 /\ (i.op = 4 -> ∃ k : Nat,1 <= k /\ (i.x = ((2 * k : Nat) : Int) \/ (i.x = ((2 * k + 1 : Nat) : Int) /\ g (b + j) (2 * k))))
theorem Lab.nil (X : Nat -> Prop) (b : Nat) (A : Nat -> Prop) : Lab X [] b A fun _ => A := ⟨rfl,rfl,fun _ _ _ _ => rfl,fun j i h => by simp at h⟩
theorem Lab.one {X : Nat -> Prop} {b : Nat} {A : Nat -> Prop} {i : PIns} (h4 : i.op ≠ 4) (h7 : i.op ≠ 7) (h : ∀ v ∈ nextS b i, ∃ n : Nat,v = (n : Int) /\ (n = b + 1 \/ X n)) : Lab X [i] b A fun _ => A := by
  refine ⟨rfl,rfl,fun _ _ _ _ => rfl,fun j i' hj => ?_⟩
  cases j with
  | succ j => simp at hj
  | zero =>
    simp only [List.getElem?_cons_zero,Option.some.injEq] at hj
    subst hj
    refine ⟨fun v hv => ?_,h7,fun h => absurd h h4⟩
    obtain ⟨n,h1,h2⟩ := h v hv
    refine ⟨n,h1,?_⟩
    rcases h2 with rfl | h2
    · exact .inl ⟨by omega,by simp,fun s hs => .inl hs⟩
    · exact .inr ⟨h2,fun s hs => .inl hs⟩
theorem Lab.widen {X Y : Nat -> Prop} {c : List PIns} {b : Nat} {A : Nat -> Prop} {g : Nat -> Nat -> Prop} (h : Lab X c b A g) (h1 : ∀ n,X n -> Y n) (h2 : ∀ n,Y n -> X n \/ n <= b \/ b + c.length <= n) : Lab Y c b A g := by
  refine ⟨h.hd,h.tl,fun n hn h3 h4 => ?_,fun j i hj => ⟨fun v hv => ?_,(h.st j i hj).2⟩⟩
  · rcases h2 n hn with h5 | h5 | h5
    · exact h.xs n h5 h3 h4
    · rw [show n = b by omega]; exact h.hd
    · rw [show n = b + c.length by omega]; exact h.tl
  · obtain ⟨n,e,h5⟩ := (h.st j i hj).1 v hv
    refine ⟨n,e,?_⟩
    rcases h5 with h5 | ⟨h5,h6⟩
    · exact .inl h5
    · exact .inr ⟨h1 n h5,h6⟩
theorem Lab.close {X Y : Nat -> Prop} {c : List PIns} {b : Nat} {A : Nat -> Prop} {g : Nat -> Nat -> Prop} (h : Lab X c b A g) (h1 : ∀ n,Y n -> X n) (h2 : ∀ n,X n -> Y n \/ (b <= n /\ n <= b + c.length)) : Lab Y c b A g := by
  refine ⟨h.hd,h.tl,fun n hn => h.xs n (h1 n hn),fun j i hj => ⟨fun v hv => ?_,(h.st j i hj).2⟩⟩
  obtain ⟨n,e,h5⟩ := (h.st j i hj).1 v hv
  refine ⟨n,e,?_⟩
  rcases h5 with h5 | ⟨h5,h6⟩
  · exact .inl h5
  · rcases h2 n h5 with h7 | ⟨h7,h8⟩
    · exact .inr ⟨h7,h6⟩
    · exact .inl ⟨h7,h8,fun s hs => h6 s (by rw [h.xs n h5 h7 h8] at hs; exact hs)⟩
theorem Lab.append {X : Nat -> Prop} {c d : List PIns} {b e : Nat} {A : Nat -> Prop} {g f : Nat -> Nat -> Prop} (h : Lab X c b A g) (he : e = b + c.length) (k : Lab X d e A f) : Lab X (c ++ d) b A fun n => if n < e then g n else f n := by
  subst he
  have hm : ∀ n,b + c.length = n -> g n = f n := fun n hn => by subst hn; rw [h.tl,k.hd]
  refine ⟨?_,?_,fun n hn h1 h2 => ?_,fun j i hj => ?_⟩
  · show (if b < b + c.length then g b else f b) = A
    split
    · exact h.hd
    · rw [show b = b + c.length by omega]; exact k.hd
  · show (if b + (c ++ d).length < b + c.length then g _ else f _) = A
    rw [if_neg (by rw [List.length_append]; omega),List.length_append, <- Nat.add_assoc]; exact k.tl
  · show (if n < b + c.length then g n else f n) = A
    rw [List.length_append] at h2
    split
    · exact h.xs n hn h1 (by omega)
    · exact k.xs n hn (by omega) (by omega)
  · by_cases hjl : j < c.length
    · rw [List.getElem?_append_left hjl] at hj
      obtain ⟨h1,h2⟩ := h.st j i hj
      have hg : (if b + j < b + c.length then g (b + j) else f (b + j)) = g (b + j) := if_pos (by omega)
      simp only [hg]
      refine ⟨fun v hv => ?_,h2⟩
      obtain ⟨n,e1,h3⟩ := h1 v hv
      refine ⟨n,e1,?_⟩
      rcases h3 with ⟨h3,h4,h5⟩ | h3
      · refine .inl ⟨h3,by rw [List.length_append]; omega,fun s hs => h5 s ?_⟩
        split at hs
        · exact hs
        · rw [hm n (by omega)]; exact hs
      · exact .inr h3
    · rw [List.getElem?_append_right (by omega)] at hj
      obtain ⟨h1,h2⟩ := k.st (j - c.length) i hj
      have hjj : b + c.length + (j - c.length) = b + j := by omega
      rw [hjj] at h1 h2
      have hg : (if b + j < b + c.length then g (b + j) else f (b + j)) = f (b + j) := if_neg (by omega)
      simp only [hg]
      refine ⟨fun v hv => ?_,h2⟩
      obtain ⟨n,e1,h3⟩ := h1 v hv
      refine ⟨n,e1,?_⟩
      rcases h3 with ⟨h3,h4,h5⟩ | h3
      · refine .inl ⟨by omega,by rw [List.length_append]; omega,fun s hs => h5 s ?_⟩
        rw [if_neg (by omega)] at hs
        exact hs
      · exact .inr h3
theorem Lab.group {c : List PIns} {b : Nat} {A : Nat -> Prop} {g : Nat -> Nat -> Prop} {k : Nat} {q w : PIns} (hk : 1 <= k) (hq : q.op = 4 /\ q.x = ((2 * k : Nat) : Int)) (hw : w.op = 4 /\ w.x = ((2 * k + 1 : Nat) : Int)) (h : Lab (fun _ => False) c (b + 1) (fun s => A s \/ s = 2 * k) g) :
    Lab (fun _ => False) (q :: (c ++ [w])) b A fun n => if n <= b \/ b + 1 + c.length < n then A else g n := by
  have hnx : ∀ (i : PIns) (m : Nat),i.op = 4 -> nextS m i = [((m + 1 : Nat) : Int)] := fun i m hi => by unfold nextS; rw [if_neg (by omega),if_neg (by omega),if_neg (by omega)]
  refine ⟨if_pos (.inl (by omega)),if_pos (.inr (by simp; omega)),fun n hn => hn.elim,fun j i hj => ?_⟩
  cases j with
  | zero =>
    simp only [List.getElem?_cons_zero,Option.some.injEq] at hj
    subst hj
    refine ⟨fun v hv => ?_,by rw [hq.1]; decide,fun _ => ⟨k,hk, .inl hq.2⟩⟩
    rw [hnx q _ hq.1] at hv
    simp only [List.mem_cons,List.not_mem_nil,or_false] at hv
    subst hv
    refine ⟨b + 0 + 1,rfl, .inl ⟨by omega,by simp,fun s hs => ?_⟩⟩
    rw [if_neg (by omega)] at hs
    rw [show b + 0 + 1 = b + 1 by omega,h.hd] at hs
    rcases hs with hs | rfl
    · exact .inl (by rw [if_pos (.inl (by omega))]; exact hs)
    · exact .inr ⟨hq.1,hq.2⟩
  | succ j =>
    rw [List.getElem?_cons_succ] at hj
    by_cases hjl : j < c.length
    · rw [List.getElem?_append_left hjl] at hj
      obtain ⟨h1,h2⟩ := h.st j i hj
      have hjj : b + 1 + j = b + (j + 1) := by omega
      rw [hjj] at h1 h2
      have hg : (if b + (j + 1) <= b \/ b + 1 + c.length < b + (j + 1) then A else g (b + (j + 1))) = g (b + (j + 1)) := if_neg (by omega)
      simp only [hg]
      refine ⟨fun v hv => ?_,h2⟩
      obtain ⟨n,e1,h3⟩ := h1 v hv
      refine ⟨n,e1,?_⟩
      rcases h3 with ⟨h3,h4,h5⟩ | ⟨h3,_⟩
      · refine .inl ⟨by omega,by simp; omega,fun s hs => h5 s ?_⟩
        rw [if_neg (by omega)] at hs
        exact hs
      · exact h3.elim
    · rw [List.getElem?_append_right (by omega)] at hj
      have hjc : j = c.length := by
        rcases Nat.eq_or_lt_of_le (show c.length <= j by omega) with h' | h'
        · exact h'.symm
        · rw [List.getElem?_eq_none (by simp; omega)] at hj; cases hj
      subst hjc
      simp only [Nat.sub_self,List.getElem?_cons_zero,Option.some.injEq] at hj
      subst hj
      have hg : (if b + (c.length + 1) <= b \/ b + 1 + c.length < b + (c.length + 1) then A else g (b + (c.length + 1))) = g (b + (c.length + 1)) := if_neg (by omega)
      have ht : g (b + (c.length + 1)) = fun s => A s \/ s = 2 * k := by rw [<- h.tl]; congr 1; omega
      refine ⟨fun v hv => ?_,by rw [hw.1]; decide,fun _ => ⟨k,hk, .inr ⟨hw.2,by rw [hg,ht]; exact .inr rfl⟩⟩⟩
      rw [hnx w _ hw.1] at hv
      simp only [List.mem_cons,List.not_mem_nil,or_false] at hv
      subst hv
      refine ⟨b + (c.length + 1) + 1,rfl, .inl ⟨by omega,by simp; omega,fun s hs => ?_⟩⟩
      rw [if_pos (.inr (by omega))] at hs
      rw [hg,ht]
      exact .inl (.inl hs)
theorem Lab.jp {b e : Nat} {X : Nat -> Prop} (A : Nat -> Prop) (he : X e) : Lab X [jpI e] b A fun _ => A := by
  refine Lab.one (by simp [jpI,mkI]) (by simp [jpI,mkI]) fun v hv => ?_
  simp only [nextS,jpI,mkI,if_true,List.mem_cons,List.not_mem_nil,or_false] at hv
  rw [if_neg (by decide)] at hv
  simp only [List.mem_cons,List.not_mem_nil,or_false] at hv
  exact ⟨e,hv, .inr he⟩
theorem Lab.sp {b o : Nat} {lz : Bool} {X : Nat -> Prop} (A : Nat -> Prop) (he : X o) : Lab X [spI b o lz] b A fun _ => A := by
  have h2 : (spI b o lz).op = 2 := by unfold spI; split <;> rfl
  refine Lab.one (by omega) (by omega) fun v hv => ?_
  unfold nextS at hv
  rw [if_pos h2] at hv
  unfold spI at hv
  split at hv
  · simp only [mkI,List.mem_cons,List.not_mem_nil,or_false] at hv
    rcases hv with rfl | rfl
    · exact ⟨o,rfl, .inr he⟩
    · exact ⟨b + 1,rfl, .inl rfl⟩
  · simp only [mkI,List.mem_cons,List.not_mem_nil,or_false] at hv
    rcases hv with rfl | rfl
    · exact ⟨b + 1,rfl, .inl rfl⟩
    · exact ⟨o,rfl, .inr he⟩
def Labd (X : Nat -> Prop) (c : List PIns) (b : Nat) (A : Nat -> Prop) : Prop := ∃ g,Lab X c b A g
theorem Labd.append {X : Nat -> Prop} {c d : List PIns} {b e : Nat} {A : Nat -> Prop} (h : Labd X c b A) (he : e = b + c.length) (k : Labd X d e A) : Labd X (c ++ d) b A := by
  obtain ⟨g,h⟩ := h; obtain ⟨f,k⟩ := k; exact ⟨_,h.append he k⟩
theorem repC_lab {A : Nat -> Prop} {c : Nat -> List PIns} {z : Nat} (hl : ∀ b,(c b).length = z) (hc : ∀ b,Labd (fun _ => False) (c b) b A) : ∀ k b,Labd (fun _ => False) (repC c z k b) b A
  | 0,b => ⟨_, .nil _ b A⟩
  | k + 1,b => (hc b).append (by rw [hl]) (repC_lab hl hc k (b + z))
theorem optC_lab {A : Nat -> Prop} {c : Nat -> List PIns} {z e : Nat} {lz : Bool} (hl : ∀ b,(c b).length = z) (hc : ∀ b,Labd (fun _ => False) (c b) b A) : ∀ k b,b + k * (z + 1) <= e -> Labd (fun n => n = e) (optC (fun s => spI s e lz) c z k b) b A
  | 0,b,_ => ⟨_, .nil _ b A⟩
  | k + 1,b,he => by
    rw [Nat.add_mul] at he
    obtain ⟨g,hg⟩ := hc (b + 1)
    have h1 : Labd (fun n => n = e) (c (b + 1)) (b + 1) A := ⟨g,hg.widen (fun n h => h.elim) fun n h => .inr (.inr (by rw [hl]; omega))⟩
    have h2 := h1.append (e := b + 1 + z) (by rw [hl]) (optC_lab (lz := lz) hl hc k (b + 1 + z) (by omega))
    exact Labd.append (c := [_]) ⟨_,Lab.sp A rfl⟩ (e := b + 1) rfl h2
theorem Labd.widen {X Y : Nat -> Prop} {c : List PIns} {b : Nat} {A : Nat -> Prop} (h : Labd X c b A) (h1 : ∀ n,X n -> Y n) (h2 : ∀ n,Y n -> X n \/ n <= b \/ b + c.length <= n) : Labd Y c b A := by
  obtain ⟨g,h⟩ := h; exact ⟨g,h.widen h1 h2⟩
theorem Labd.close {X Y : Nat -> Prop} {c : List PIns} {b : Nat} {A : Nat -> Prop} (h : Labd X c b A) (h1 : ∀ n,Y n -> X n) (h2 : ∀ n,X n -> Y n \/ (b <= n /\ n <= b + c.length)) : Labd Y c b A := by
  obtain ⟨g,h⟩ := h; exact ⟨g,h.close h1 h2⟩
theorem rptC_lab {A : Nat -> Prop} {n : Nod} {c : Nat -> List PIns} {z : Nat} (hl : ∀ b,(c b).length = z) (hc : ∀ b,Labd (fun _ => False) (c b) b A) (b : Nat) : Labd (fun _ => False) (rptC n c z b) b A := by
  have hr := repC_lab hl hc n.mn.toNat b
  have hrl : (repC c z n.mn.toNat b).length = n.mn.toNat * z := repC_len hl _ _
  unfold rptC
  split
  · refine hr.append (e := b + n.mn.toNat * z) (by rw [hrl]) ?_
    generalize b + n.mn.toNat * z = s
    have h1 : Labd (fun n => n = s \/ n = s + z + 2) (c (s + 1)) (s + 1) A := (hc (s + 1)).widen (fun n h => h.elim) fun n h => by rw [hl]; omega
    have h2 : Labd (fun n => n = s \/ n = s + z + 2) [jpI s] (s + 1 + z) A := ⟨_,Lab.jp A (.inl rfl)⟩
    have h3 := Labd.append (c := [spI s (s + z + 2) n.lz]) (b := s) ⟨_,Lab.sp A (.inr rfl)⟩ (e := s + 1) rfl (h1.append (by rw [hl]) h2)
    refine Labd.close h3 (fun n h => h.elim) fun n h => .inr ?_
    simp only [List.length_append,List.length_cons,List.length_nil,hl]
    omega
  · refine hr.append (e := b + n.mn.toNat * z) (by rw [hrl]) ?_
    generalize b + n.mn.toNat * z = s
    have h1 := optC_lab (lz := n.lz) (e := s + (n.mx.toNat - n.mn.toNat) * (z + 1)) hl hc (n.mx.toNat - n.mn.toNat) s (Nat.le_refl _)
    refine Labd.close h1 (fun n h => h.elim) fun n h => .inr ?_
    rw [optC_len hl]
    omega
mutual
theorem codeT_lab : ∀ (t : Tr) (b : Nat) (A : Nat -> Prop),t.ok -> Labd (fun _ => False) (codeT t b) b A
  | .mk n ks,b,A,h => by
    have hlen := codeT_len (.mk n ks) b h
    simp only [Tr.ok] at h
    obtain ⟨h1,h2⟩ := h
    have hcl := fun b => catT_len ks b h2
    have hnx : ∀ (op x y : Int) (rs : List Rg) (m : Nat),op ≠ 2 -> op ≠ 3 -> op ≠ 7 -> ∀ v ∈ nextS m (mkI op x y rs), ∃ n : Nat,v = (n : Int) /\ (n = m + 1 \/ False) := by
      intro op x y rs m a1 a2 a3 v hv
      unfold nextS at hv
      rw [if_neg (show ¬ (mkI op x y rs).op = 2 from a1),if_neg (show ¬ (mkI op x y rs).op = 3 from a2),if_neg (show ¬ (mkI op x y rs).op = 7 from a3)] at hv
      simp only [List.mem_cons,List.not_mem_nil,or_false] at hv
      exact ⟨m + 1,hv, .inl rfl⟩
    simp only [codeT]
    split
    · exact ⟨_,Lab.one (by simp [mkI]) (by simp [mkI]) (hnx 1 0 0 _ b (by decide) (by decide) (by decide))⟩
    · split
      · exact ⟨_,Lab.one (by simp [mkI]) (by simp [mkI]) (hnx 5 0 0 _ b (by decide) (by decide) (by decide))⟩
      · split
        · exact ⟨_,Lab.one (by simp [mkI]) (by simp [mkI]) (hnx 6 0 0 _ b (by decide) (by decide) (by decide))⟩
        · split
          · exact catT_lab ks b A h2
          · split
            · rename_i h4
              have hz : nodSz n ks.sz ks.len = ks.sz + 2 * (ks.len - 1) := by unfold nodSz; rw [if_neg (by omega),if_pos h4]
              have ha := altT_len (jpI (b + nodSz n ks.sz ks.len)) ks b h2
              refine Labd.close (X := fun m => m = b + nodSz n ks.sz ks.len) ?_ (fun n h => h.elim) fun m hm => .inr ?_
              · exact altT_lab _ ks b A h2 (by rw [ha,hz]; omega)
              · rw [ha]; rw [hz] at hm; omega
            · split
              · exact rptC_lab hcl (fun b => catT_lab ks b A h2) b
              · split
                · rename_i h6
                  obtain ⟨g,hg⟩ := catT_lab ks (b + 1) (fun s => A s \/ s = 2 * n.cap.toNat) h2
                  have hcap : 1 <= n.cap := by
                    rcases h1.2 with h | h | h | h | h <;> omega
                  exact ⟨_,Lab.group (k := n.cap.toNat) (by omega) ⟨rfl,by show 2 * n.cap = _; omega⟩ ⟨rfl,by show 2 * n.cap + 1 = _; omega⟩ hg⟩
                · exact ⟨_, .nil _ b A⟩
theorem catT_lab : ∀ (ts : Trs) (b : Nat) (A : Nat -> Prop),ts.ok -> Labd (fun _ => False) (catT ts b) b A
  | .nil,b,A,_ => by simp only [catT]; exact ⟨_, .nil _ b A⟩
  | .cons t ts,b,A,h => by
    simp only [Trs.ok] at h
    simp only [catT]
    exact (codeT_lab t b A h.1).append (by rw [codeT_len t b h.1]) (catT_lab ts (b + t.sz) A h.2)
theorem altT_lab (e : Nat) : ∀ (ts : Trs) (b : Nat) (A : Nat -> Prop),ts.ok -> b + (altT (jpI e) ts b).length <= e -> Labd (fun n => n = e) (altT (jpI e) ts b) b A
  | .nil,b,A,_,_ => by simp only [altT]; exact ⟨_, .nil _ b A⟩
  | .cons t ts,b,A,h,he => by
    simp only [Trs.ok] at h
    simp only [altT] at he ⊢
    split
    · rename_i h0
      rw [if_pos h0] at he
      exact (codeT_lab t b A h.1).widen (fun n h => h.elim) fun n hn => .inr (.inr (by omega))
    · rename_i h0
      rw [if_neg h0] at he
      simp only [List.length_cons,List.length_append,codeT_len t (b + 1) h.1] at he
      have h1 : Labd (fun n => n = e \/ n = b + 1 + t.sz + 1) (codeT t (b + 1)) (b + 1) A := (codeT_lab t (b + 1) A h.1).widen (fun n h => h.elim) fun n hn => .inr (.inr (by rw [codeT_len t (b + 1) h.1]; omega))
      have h2 : Labd (fun n => n = e \/ n = b + 1 + t.sz + 1) (altT (jpI e) ts (b + t.sz + 2)) (b + t.sz + 2) A := (altT_lab e ts (b + t.sz + 2) A h.2 (by omega)).widen (fun n h => .inl h) fun n hn => by omega
      have h3 : Labd (fun n => n = e \/ n = b + 1 + t.sz + 1) (jpI e :: altT (jpI e) ts (b + t.sz + 2)) (b + 1 + t.sz) A := Labd.append (c := [jpI e]) ⟨_,Lab.jp A (.inl rfl)⟩ (e := b + t.sz + 2) (by simp only [List.length_cons,List.length_nil]; omega) h2
      have h4 := Labd.append (c := [spI b (b + 1 + t.sz + 1) false]) (b := b) ⟨_,Lab.sp A (.inr rfl)⟩ (e := b + 1) rfl (h1.append (by rw [codeT_len t (b + 1) h.1]) h3)
      refine Labd.close h4 (fun n h => .inl h) fun n hn => ?_
      rcases hn with hn | hn
      · exact .inl hn
      · refine .inr ?_
        simp only [List.length_append,List.length_cons,List.length_nil,codeT_len t (b + 1) h.1]
        omega
end
end Go.Proofs.Ytnleclohocdkaaa
