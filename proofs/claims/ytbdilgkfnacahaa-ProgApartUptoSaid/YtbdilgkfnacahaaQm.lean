/-
  A tree's code elsewhere is its code with its numbers moved; where its numbers lie.
-/
import Derived.Test.YtbdilgkfnacahaaQc
namespace Go.Proofs.Ytbdilgkfnacahaa
open Go.V Go
set_option maxRecDepth 100000
set_option linter.unusedSimpArgs false
set_option linter.unusedVariables false

/-- an instruction, its numbers moved -/
def shI (n : Nat) (i : PIns) : PIns := if i.op = 2 then ⟨2, i.x + n, i.y + n, i.rd, i.rs⟩ else if i.op = 3 then ⟨3, i.x + n, i.y, i.rd, i.rs⟩ else i
theorem shI_mk (n : Nat) {op : Int} (x y : Int) (rs : List Rg) (h2 : op ≠ 2) (h3 : op ≠ 3) : shI n (mkI op x y rs) = mkI op x y rs := by
  unfold shI mkI
  rw [if_neg h2, if_neg h3]
theorem shI_sp (n s o : Nat) (lz : Bool) : shI n (spI s o lz) = spI (s + n) (o + n) lz := by
  cases lz
  · show (⟨2, ((s + 1 : Nat) : Int) + n, (o : Int) + n, _, _⟩ : PIns) = mkI 2 ((s + n + 1 : Nat) : Int) ((o + n : Nat) : Int) []
    unfold mkI
    congr 1; omega
  · show (⟨2, (o : Int) + n, ((s + 1 : Nat) : Int) + n, _, _⟩ : PIns) = mkI 2 ((o + n : Nat) : Int) ((s + n + 1 : Nat) : Int) []
    unfold mkI
    congr 1; omega
theorem shI_jp (n e : Nat) : shI n (jpI e) = jpI (e + n) := by
  show (⟨3, (e : Int) + n, 0, _, _⟩ : PIns) = mkI 3 ((e + n : Nat) : Int) 0 []
  unfold mkI
  congr 1

theorem repC_sh {c : Nat → List PIns} {z n : Nat} (hc : ∀ b, c (b + n) = (c b).map (shI n)) : ∀ k b, repC c z k (b + n) = (repC c z k b).map (shI n)
  | 0, b => rfl
  | k + 1, b => by
    have h := repC_sh hc (z := z) k (b + z)
    rw [Nat.add_right_comm] at h
    rw [repC, repC, List.map_append, hc, h]
theorem optC_sh {sp sp' : Nat → PIns} {c : Nat → List PIns} {z n : Nat} (hs : ∀ s, sp' (s + n) = shI n (sp s)) (hc : ∀ b, c (b + n) = (c b).map (shI n)) : ∀ k b, optC sp' c z k (b + n) = (optC sp c z k b).map (shI n)
  | 0, b => rfl
  | k + 1, b => by
    have h := optC_sh hs hc (z := z) k (b + 1 + z)
    have e1 : b + 1 + z + n = b + n + 1 + z := by omega
    have e2 : b + n + 1 = b + 1 + n := by omega
    rw [e1] at h
    rw [optC, optC, List.map_cons, List.map_append, hs, h, e2, hc]
theorem rptC_sh {nd : Nod} {c : Nat → List PIns} {z n b : Nat} (hc : ∀ b, c (b + n) = (c b).map (shI n)) : rptC nd c z (b + n) = (rptC nd c z b).map (shI n) := by
  unfold rptC
  split
  · rw [List.map_append, repC_sh hc, List.map_cons, List.map_append, shI_sp, List.map_cons, List.map_nil, shI_jp]
    have e1 : b + n + nd.mn.toNat * z = b + nd.mn.toNat * z + n := by omega
    have e2 : b + nd.mn.toNat * z + n + 1 = b + nd.mn.toNat * z + 1 + n := by omega
    have e3 : b + nd.mn.toNat * z + n + z + 2 = b + nd.mn.toNat * z + z + 2 + n := by omega
    rw [e1, e2, e3, hc]
  · rw [List.map_append, repC_sh hc]
    have e1 : b + n + nd.mn.toNat * z = b + nd.mn.toNat * z + n := by omega
    rw [e1]
    congr 1
    refine optC_sh (fun s => ?_) hc _ _
    rw [shI_sp]
    congr 1
    omega

mutual
theorem codeT_sh (n : Nat) : ∀ (t : Tr) (b : Nat), codeT t (b + n) = (codeT t b).map (shI n)
  | .mk nd ks, b => by
    have hc := fun b => catT_sh n ks b
    have ha := fun e b => altT_sh n e ks b
    simp only [codeT]
    split
    · rw [List.map_cons, List.map_nil, shI_mk _ _ _ _ (by decide) (by decide)]
    split
    · rw [List.map_cons, List.map_nil, shI_mk _ _ _ _ (by decide) (by decide)]
    split
    · rw [List.map_cons, List.map_nil, shI_mk _ _ _ _ (by decide) (by decide)]
    split
    · exact hc b
    split
    · rw [Nat.add_right_comm]; exact ha _ b
    split
    · exact rptC_sh hc
    split
    · rw [List.map_cons, List.map_append, List.map_cons, List.map_nil, shI_mk _ _ _ _ (by decide) (by decide), shI_mk _ _ _ _ (by decide) (by decide), Nat.add_right_comm, hc]
    · rfl
theorem catT_sh (n : Nat) : ∀ (ts : Trs) (b : Nat), catT ts (b + n) = (catT ts b).map (shI n)
  | .nil, b => by simp only [catT, List.map_nil]
  | .cons t ts, b => by
    have h := catT_sh n ts (b + t.sz)
    rw [Nat.add_right_comm] at h
    simp only [catT, List.map_append]
    rw [codeT_sh n t b, h]
theorem altT_sh (n : Nat) : ∀ (e : Nat) (ts : Trs) (b : Nat), altT (jpI (e + n)) ts (b + n) = (altT (jpI e) ts b).map (shI n)
  | e, .nil, b => by simp only [altT, List.map_nil]
  | e, .cons t ts, b => by
    have h := altT_sh n e ts (b + t.sz + 2)
    have h1 := codeT_sh n t (b + 1)
    have e1 : b + t.sz + 2 + n = b + n + t.sz + 2 := by omega
    have e2 : b + 1 + n = b + n + 1 := by omega
    have e3 : b + 1 + t.sz + 1 + n = b + n + 1 + t.sz + 1 := by omega
    rw [e1] at h
    rw [e2] at h1
    simp only [altT]
    split
    · exact codeT_sh n t b
    · rw [List.map_cons, List.map_append, List.map_cons, shI_sp, shI_jp, h1, h, e3]
end

/-- where an instruction's numbers lie -/
def InI (lo hi : Nat) (i : PIns) : Prop := i.op ≠ 7 ∧ (i.op = 2 → ((lo : Int) ≤ i.x ∧ i.x ≤ hi) ∧ (lo : Int) ≤ i.y ∧ i.y ≤ hi) ∧ (i.op = 3 → (lo : Int) ≤ i.x ∧ i.x ≤ hi)
theorem InI.mono {lo hi lo' hi' : Nat} {i : PIns} (h : InI lo hi i) (h1 : lo' ≤ lo) (h2 : hi ≤ hi') : InI lo' hi' i :=
  ⟨h.1, fun e => by have := h.2.1 e; omega, fun e => by have := h.2.2 e; omega⟩
theorem InI.mk {lo hi : Nat} {op : Int} (x y : Int) (rs : List Rg) (h2 : op ≠ 2) (h3 : op ≠ 3) (h7 : op ≠ 7) : InI lo hi (mkI op x y rs) := ⟨h7, fun h => absurd h h2, fun h => absurd h h3⟩
theorem InI.sp {lo hi s o : Nat} {lz : Bool} (h1 : lo ≤ s + 1 ∧ s + 1 ≤ hi) (h2 : lo ≤ o ∧ o ≤ hi) : InI lo hi (spI s o lz) := by
  cases lz
  · exact ⟨by show (2 : Int) ≠ 7; decide, fun _ => by show ((lo : Int) ≤ ((s + 1 : Nat) : Int) ∧ ((s + 1 : Nat) : Int) ≤ hi) ∧ (lo : Int) ≤ (o : Int) ∧ (o : Int) ≤ hi; omega, fun h => absurd h (by show ¬ (2 : Int) = 3; decide)⟩
  · exact ⟨by show (2 : Int) ≠ 7; decide, fun _ => by show ((lo : Int) ≤ (o : Int) ∧ (o : Int) ≤ hi) ∧ (lo : Int) ≤ ((s + 1 : Nat) : Int) ∧ ((s + 1 : Nat) : Int) ≤ hi; omega, fun h => absurd h (by show ¬ (2 : Int) = 3; decide)⟩
theorem InI.jp {lo hi e : Nat} (h1 : lo ≤ e ∧ e ≤ hi) : InI lo hi (jpI e) :=
  ⟨by show (3 : Int) ≠ 7; decide, fun h => absurd h (by show ¬ (3 : Int) = 2; decide), fun _ => by show (lo : Int) ≤ (e : Int) ∧ (e : Int) ≤ hi; omega⟩

theorem repC_in {c : Nat → List PIns} {z : Nat} (hc : ∀ b, ∀ i ∈ c b, InI b (b + z) i) : ∀ k b, ∀ i ∈ repC c z k b, InI b (b + k * z) i
  | 0, b, i, hi => by cases hi
  | k + 1, b, i, hi => by
    simp only [repC] at hi
    rw [Nat.succ_mul]
    rcases List.mem_append.1 hi with hi | hi
    · exact (hc b i hi).mono (Nat.le_refl _) (by omega)
    · exact (repC_in hc k _ i hi).mono (by omega) (by omega)
theorem optC_in {sp : Nat → PIns} {c : Nat → List PIns} {z lo hi : Nat} (hs : ∀ s, lo ≤ s → s + 1 ≤ hi → InI lo hi (sp s)) (hc : ∀ b, ∀ i ∈ c b, InI b (b + z) i) : ∀ k b, lo ≤ b → b + k * (z + 1) ≤ hi → ∀ i ∈ optC sp c z k b, InI lo hi i
  | 0, b, _, _, i, hi' => by cases hi'
  | k + 1, b, h1, h2, i, hi' => by
    simp only [optC] at hi'
    rw [Nat.succ_mul] at h2
    rcases List.mem_cons.1 hi' with rfl | hi'
    · exact hs b h1 (by omega)
    · rcases List.mem_append.1 hi' with hi' | hi'
      · exact (hc _ i hi').mono (by omega) (by omega)
      · exact optC_in hs hc k _ (by omega) (by omega) i hi'
mutual
theorem codeT_in : ∀ (t : Tr) (b : Nat), t.ok → ∀ i ∈ codeT t b, InI b (b + t.sz) i
  | .mk n ks, b, hok, i, hi => by
    simp only [Tr.ok] at hok
    have hc := fun b => catT_in ks b hok.2
    obtain ⟨_, hq⟩ := hok.1
    simp only [codeT] at hi
    simp only [Tr.sz]
    by_cases q2 : n.op = 2
    · rw [if_pos q2] at hi
      simp only [List.mem_cons, List.not_mem_nil, or_false] at hi; subst hi; exact InI.mk _ _ _ (by decide) (by decide) (by decide)
    rw [if_neg q2] at hi
    by_cases q7 : n.op = 7
    · rw [if_pos q7] at hi
      simp only [List.mem_cons, List.not_mem_nil, or_false] at hi; subst hi; exact InI.mk _ _ _ (by decide) (by decide) (by decide)
    rw [if_neg q7] at hi
    by_cases q8 : n.op = 8
    · rw [if_pos q8] at hi
      simp only [List.mem_cons, List.not_mem_nil, or_false] at hi; subst hi; exact InI.mk _ _ _ (by decide) (by decide) (by decide)
    rw [if_neg q8] at hi
    have hz : ∀ s k, nodSz n s k = if n.op = 4 then s + 2 * (k - 1) else if n.op = 6 then s + 2 else if n.op = 5 then (if n.mx = -1 then n.mn.toNat * s + s + 2 else n.mn.toNat * s + (n.mx.toNat - n.mn.toNat) * (s + 1)) else s := by
      intro s k; unfold nodSz; rw [if_neg (by omega)]
    by_cases q3 : n.op = 3
    · rw [if_pos q3] at hi
      rw [hz, if_neg (by omega), if_neg (by omega), if_neg (by omega)]
      exact hc b i hi
    rw [if_neg q3] at hi
    by_cases q4 : n.op = 4
    · rw [if_pos q4] at hi
      have hz4 : nodSz n ks.sz ks.len = ks.sz + 2 * (ks.len - 1) := by rw [hz, if_pos q4]
      rw [hz4] at hi ⊢
      exact altT_in ks b (b + (ks.sz + 2 * (ks.len - 1))) hok.2 (Nat.le_refl _) i hi
    rw [if_neg q4] at hi
    by_cases q5 : n.op = 5
    · rw [if_pos q5] at hi
      rw [hz, if_neg q4, if_neg (by omega), if_pos q5]
      unfold rptC at hi
      by_cases qm : n.mx = -1
      · rw [if_pos qm] at hi ⊢
        rcases List.mem_append.1 hi with hi | hi
        · exact (repC_in hc _ _ i hi).mono (Nat.le_refl _) (by omega)
        · rcases List.mem_cons.1 hi with rfl | hi
          · exact InI.sp (by omega) (by omega)
          · rcases List.mem_append.1 hi with hi | hi
            · exact (hc _ i hi).mono (by omega) (by omega)
            · simp only [List.mem_cons, List.not_mem_nil, or_false] at hi; subst hi; exact InI.jp (by omega)
      · rw [if_neg qm] at hi ⊢
        rcases List.mem_append.1 hi with hi | hi
        · exact (repC_in hc _ _ i hi).mono (Nat.le_refl _) (by omega)
        · exact optC_in (fun s h1 h2 => InI.sp (by omega) (by omega)) hc _ _ (by omega) (by omega) i hi
    rw [if_neg q5] at hi
    by_cases q6 : n.op = 6
    · rw [if_pos q6] at hi
      rw [hz, if_neg q4, if_pos q6]
      rcases List.mem_cons.1 hi with rfl | hi
      · exact InI.mk _ _ _ (by decide) (by decide) (by decide)
      · rcases List.mem_append.1 hi with hi | hi
        · exact (hc _ i hi).mono (by omega) (by omega)
        · simp only [List.mem_cons, List.not_mem_nil, or_false] at hi; subst hi; exact InI.mk _ _ _ (by decide) (by decide) (by decide)
    · rw [if_neg q6] at hi; cases hi
theorem catT_in : ∀ (ts : Trs) (b : Nat), ts.ok → ∀ i ∈ catT ts b, InI b (b + ts.sz) i
  | .nil, b, _, i, hi => by simp [catT] at hi
  | .cons t ts, b, hok, i, hi => by
    simp only [Trs.ok] at hok
    simp only [catT] at hi
    simp only [Trs.sz]
    rcases List.mem_append.1 hi with hi | hi
    · exact (codeT_in t b hok.1 i hi).mono (Nat.le_refl _) (by omega)
    · exact (catT_in ts _ hok.2 i hi).mono (by omega) (by omega)
theorem altT_in : ∀ (ts : Trs) (b e : Nat), ts.ok → b + (ts.sz + 2 * (ts.len - 1)) ≤ e → ∀ i ∈ altT (jpI e) ts b, InI b e i
  | .nil, b, e, _, _, i, hi => by simp [altT] at hi
  | .cons t ts, b, e, hok, he, i, hi => by
    simp only [Trs.ok] at hok
    simp only [altT] at hi
    simp only [Trs.sz, Trs.len] at he
    by_cases q : ts.len = 0
    · rw [if_pos q] at hi
      exact (codeT_in t b hok.1 i hi).mono (Nat.le_refl _) (by omega)
    · rw [if_neg q] at hi
      rcases List.mem_cons.1 hi with rfl | hi
      · exact InI.sp (by omega) (by omega)
      · rcases List.mem_append.1 hi with hi | hi
        · exact (codeT_in t _ hok.1 i hi).mono (by omega) (by omega)
        · rcases List.mem_cons.1 hi with rfl | hi
          · exact InI.jp (by omega)
          · exact (altT_in ts _ e hok.2 (by omega) i hi).mono (by omega) (by omega)
end

/-- what a rule's instruction is within a set, as the second one -/
def wantI (n : Nat) (i : PIns) : PIns := if i.op = 2 then ⟨2, i.x + n, i.y + n, i.rd, i.rs⟩ else if i.op = 3 then ⟨3, i.x + n, i.y, i.rd, i.rs⟩ else if i.op = 7 then ⟨7, 1, i.y, i.rd, i.rs⟩ else i
theorem want_sh {lo hi n : Nat} {i : PIns} (h : InI lo hi i) : wantI n i = shI n i := by
  unfold wantI shI
  rw [if_neg h.1]
theorem rule_want {t : Tr} (h : t.ok) (n : Nat) : ruleC t n 1 = (ruleC t 0 0).map (wantI n) := by
  unfold ruleC
  have h1 := codeT_sh n t 1
  rw [Nat.add_comm 1 n] at h1
  rw [h1, List.map_cons, List.map_append]
  congr 1
  congr 1
  exact (List.map_congr_left fun i hi => want_sh (codeT_in t 1 h i hi)).symm

theorem rule_in {t : Tr} (h : t.ok) : ∀ i ∈ ruleC t 0 0, i.op = 2 ∨ i.op = 3 → (0 ≤ i.x ∧ i.x ≤ t.sz + 1) ∧ (i.op = 2 → 0 ≤ i.y ∧ i.y ≤ t.sz + 1) := by
  intro i hi ho
  unfold ruleC at hi
  rcases List.mem_cons.1 hi with rfl | hi
  · exact absurd ho (by show ¬ ((4 : Int) = 2 ∨ (4 : Int) = 3); decide)
  · rcases List.mem_append.1 hi with hi | hi
    · obtain ⟨_, h2, h3⟩ := codeT_in t _ h i hi
      rcases ho with ho | ho
      · have := h2 ho; omega
      · have := h3 ho; exact ⟨by omega, fun h => by omega⟩
    · simp only [List.mem_cons, List.not_mem_nil, or_false] at hi
      rcases hi with rfl | rfl
      · exact absurd ho (by show ¬ ((4 : Int) = 2 ∨ (4 : Int) = 3); decide)
      · exact absurd ho (by show ¬ ((7 : Int) = 2 ∨ (7 : Int) = 3); decide)

theorem compS_nil' (r : Nat) (c : List PIns) (s : List Int) : compS [] r c s = ⟨c, s, 0, 0⟩ := by simp only [compS]
theorem compile_one (a : List Nod) : compileS [a] = if rightN a = false then ⟨[], [], 1, 0⟩ else if 400 < min (treeN a).sz 401 + 3 then ⟨[], [], 12, 0⟩ else ⟨ruleC (treeN a) 0 0, [0], 0, 0⟩ := by
  unfold compileS
  rw [if_neg (by simp), compS]
  simp only [compS_nil', List.length_nil, List.nil_append, Nat.zero_add]
  rfl

theorem apart_cases (a b : List Nod) :
    (((compileS [a]).e ≠ 0 ∨ (compileS [b]).e ≠ 0) ∧ (compileS [a, b]).e ≠ 0 ∧ (compileS [a, b]).code = [] ∧ (((compileS [a, b]).w == 0) == ((compileS [a]).e != 0)) = true) ∨
    ((compileS [a]).e = 0 ∧ (compileS [b]).e = 0 ∧ 400 < (compileS [a]).code.length + (compileS [b]).code.length ∧ (compileS [a, b]).e = 12 ∧ (compileS [a, b]).w = 1) ∨
    ((compileS [a]).e = 0 ∧ (compileS [b]).e = 0 ∧ (compileS [a]).code.length + (compileS [b]).code.length ≤ 400 ∧ (compileS [a, b]).e = 0 ∧ (compileS [a, b]).starts = [0, ((compileS [a]).code.length : Int)] ∧ (compileS [a, b]).code = (compileS [a]).code ++ (compileS [b]).code.map (wantI (compileS [a]).code.length) ∧ ∀ i ∈ (compileS [b]).code, i.op = 2 ∨ i.op = 3 → (0 ≤ i.x ∧ i.x ≤ 1000) ∧ (i.op = 2 → 0 ≤ i.y ∧ i.y ≤ 1000)) := by
  have hB : compileS [a, b] = if rightN a = false then ⟨[], [], 1, 0⟩ else if 400 < min (treeN a).sz 401 + 3 then ⟨[], [], 12, 0⟩ else if rightN b = false then ⟨[], [], 1, 1⟩ else if 400 < (ruleC (treeN a) 0 0).length + min (treeN b).sz 401 + 3 then ⟨[], [], 12, 1⟩ else ⟨ruleC (treeN a) 0 0 ++ ruleC (treeN b) (ruleC (treeN a) 0 0).length 1, [0, ((ruleC (treeN a) 0 0).length : Int)], 0, 0⟩ := by
    unfold compileS
    rw [if_neg (by simp), compS, compS]
    simp only [compS_nil', List.length_nil, List.nil_append, Nat.zero_add]
    rfl
  rw [hB, compile_one a, compile_one b]
  by_cases ha : rightN a = false
  · rw [if_pos ha, if_pos ha]
    exact .inl ⟨.inl (by decide), by decide, rfl, by decide⟩
  rw [if_neg ha, if_neg ha]
  have hta := (tree_is (by rw [← Bool.not_eq_false]; exact ha)).1
  by_cases hba : 400 < min (treeN a).sz 401 + 3
  · rw [if_pos hba, if_pos hba]
    exact .inl ⟨.inl (by decide), by decide, rfl, by decide⟩
  rw [if_neg hba, if_neg hba]
  have hla := ruleC_len (b := 0) (r := 0) hta
  by_cases hb : rightN b = false
  · rw [if_pos hb, if_pos hb]
    exact .inl ⟨.inr (by decide), by decide, rfl, rfl⟩
  rw [if_neg hb, if_neg hb]
  have htb := (tree_is (by rw [← Bool.not_eq_false]; exact hb)).1
  have hlb := ruleC_len (b := 0) (r := 0) htb
  by_cases hbb : 400 < min (treeN b).sz 401 + 3
  · rw [if_pos hbb, if_pos (by omega)]
    exact .inl ⟨.inr (by decide), by decide, rfl, rfl⟩
  rw [if_neg hbb]
  by_cases hall : 400 < (ruleC (treeN a) 0 0).length + min (treeN b).sz 401 + 3
  · rw [if_pos hall]
    exact .inr (.inl ⟨rfl, rfl, by simp only; omega, rfl, rfl⟩)
  · rw [if_neg hall]
    refine .inr (.inr ⟨rfl, rfl, by simp only; omega, rfl, rfl, ?_, fun i hi ho => ?_⟩)
    · simp only
      rw [rule_want htb]
    · have := rule_in htb i hi ho
      omega
end Go.Proofs.Ytbdilgkfnacahaa
