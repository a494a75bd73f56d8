/-
  Sets of patterns as programs.
-/
import Derived.Test.YtbdilgkfnacahaaQb
namespace Go.Proofs.Ytbdilgkfnacahaa
open Go.V Go
set_option maxRecDepth 100000
set_option linter.unusedSimpArgs false
set_option linter.unusedVariables false

theorem cap_nod {n : Nod} {k s : Nat} : min (nodSz n (min s 401) k) 401 = min (nodSz n s k) 401 := by
  by_cases hs : s ≤ 401
  · rw [Nat.min_eq_left hs]
  · have hx : min s 401 = 401 := by omega
    rw [hx]
    unfold nodSz
    split
    · rfl
    · split
      · omega
      · split
        · omega
        · split
          · split
            · omega
            · by_cases h0 : n.mn.toNat = 0
              · rw [h0]
                by_cases hd : n.mx.toNat - 0 = 0
                · rw [hd]; simp
                · have h1 := Nat.le_mul_of_pos_left (401 + 1) (show 0 < n.mx.toNat - 0 by omega)
                  have h2 := Nat.le_mul_of_pos_left (s + 1) (show 0 < n.mx.toNat - 0 by omega)
                  omega
              · have h1 := Nat.le_mul_of_pos_left 401 (show 0 < n.mn.toNat by omega)
                have h2 := Nat.le_mul_of_pos_left s (show 0 < n.mn.toNat by omega)
                omega
          · omega

/-- a rule's code -/
def ruleC (t : Tr) (b r : Nat) : List PIns := mkI 4 0 0 [] :: (codeT t (b + 1) ++ [mkI 4 1 0 [], mkI 7 (r : Nat) 0 []])
theorem ruleC_len {t : Tr} {b r : Nat} (h : t.ok) : (ruleC t b r).length = t.sz + 3 := by
  unfold ruleC
  rw [List.length_cons, List.length_append, codeT_len t _ h]; rfl

/-- the program, or why there is none -/
structure CompR where
  code : List PIns
  starts : List Int
  e : Int
  w : Int
noncomputable def compS : List (List Nod) → Nat → List PIns → List Int → CompR
  | [], _, c, s => ⟨c, s, 0, 0⟩
  | l :: ls, r, c, s => if rightN l = false then ⟨[], [], 1, (r : Nat)⟩ else if 400 < c.length + min (treeN l).sz 401 + 3 then ⟨[], [], 12, (r : Nat)⟩ else compS ls (r + 1) (c ++ ruleC (treeN l) c.length r) (s ++ [((c.length : Nat) : Int)])
noncomputable def compileS (rules : List (List Nod)) : CompR := if 8 < rules.length then ⟨[], [], 13, 8⟩ else compS rules 0 [] []

/-- a program as it is told -/
def pgV (code : List PIns) (starts : List Int) : Pg := ⟨.sl ((code.map insC).map (elD 4)), code, intsV starts, starts⟩
/-- an instruction as it is told -/
def InsV (i : PIns) : Prop := i.rd = .sl ((i.rs.map rangeC).map (elD 2)) ∧ i.rs.length ≤ 1048576
theorem mkI_v (op x y : Int) : InsV (mkI op x y []) := ⟨rfl, by simp [mkI]⟩
theorem mkI_r (op x y : Int) {rs : List Rg} (h : rs.length ≤ 1048576) : InsV (mkI op x y rs) := ⟨rfl, h⟩
theorem spI_v (s o : Nat) (lz : Bool) : InsV (spI s o lz) := by unfold spI; split <;> exact mkI_v _ _ _
theorem jpI_v (e : Nat) : InsV (jpI e) := mkI_v _ _ _
theorem insV_plain {code : List PIns} (h : ∀ i ∈ code, InsV i) : ∀ e ∈ code.map insC, ∀ d ∈ e, plainC d = true := by
  intro e he d hd
  obtain ⟨q, hq, rfl⟩ := List.mem_map.1 he
  have hr := (h q hq).1
  simp only [insC, hr, List.mem_cons, List.not_mem_nil, or_false] at hd
  rcases hd with rfl | rfl | rfl | rfl <;> rfl
theorem ins_len (code : List PIns) : ∀ e ∈ code.map insC, e.length = 4 := by
  intro e he; obtain ⟨q, _, rfl⟩ := List.mem_map.1 he; rfl
theorem pgV_ok {code : List PIns} {starts : List Int} (h : ∀ i ∈ code, InsV i) (h1 : code.length ≤ 1048576) (h2 : starts.length ≤ 1048576) : (pgV code starts).ok := by
  refine ⟨SlD.frozen (ins_len code) (insV_plain h), intsV_sl _, fun i hi => ?_, h1, h2⟩
  obtain ⟨h3, h4⟩ := h i hi
  refine ⟨?_, h4⟩
  rw [h3]
  exact SlD.frozen (range_len _) (range_plain _)

def Tr.rsOk (l : List Nod) : Prop := ∀ n ∈ l, n.rs.length ≤ 1048576
theorem repC_v {c : Nat → List PIns} {z : Nat} (hc : ∀ b, ∀ i ∈ c b, InsV i) : ∀ k b, ∀ i ∈ repC c z k b, InsV i
  | 0, b, i, hi => by cases hi
  | k + 1, b, i, hi => by
    simp only [repC] at hi
    rcases List.mem_append.1 hi with hi | hi
    · exact hc b i hi
    · exact repC_v hc k _ i hi
theorem optC_v {sp : Nat → PIns} {c : Nat → List PIns} {z : Nat} (hs : ∀ s, InsV (sp s)) (hc : ∀ b, ∀ i ∈ c b, InsV i) : ∀ k b, ∀ i ∈ optC sp c z k b, InsV i
  | 0, b, i, hi => by cases hi
  | k + 1, b, i, hi => by
    simp only [optC] at hi
    rcases List.mem_cons.1 hi with rfl | hi
    · exact hs _
    · rcases List.mem_append.1 hi with hi | hi
      · exact hc _ i hi
      · exact optC_v hs hc k _ i hi
mutual
theorem codeT_v : ∀ (t : Tr) (b : Nat), (∀ n ∈ t.flat, n.rs.length ≤ 1048576) → ∀ i ∈ codeT t b, InsV i
  | .mk n ks, b, h, i, hi => by
    simp only [Tr.flat] at h
    have hn := h n (List.mem_cons_self ..)
    have hk : ∀ n ∈ ks.flat, n.rs.length ≤ 1048576 := fun m hm => h m (List.mem_cons_of_mem _ hm)
    have hc := fun b => catT_v ks b hk
    have ha := fun jp (hj : InsV jp) b => altT_v jp hj ks b hk
    simp only [codeT] at hi
    split at hi
    · simp only [List.mem_cons, List.not_mem_nil, or_false] at hi; subst hi; exact mkI_r _ _ _ hn
    split at hi
    · simp only [List.mem_cons, List.not_mem_nil, or_false] at hi; subst hi; exact mkI_v _ _ _
    split at hi
    · simp only [List.mem_cons, List.not_mem_nil, or_false] at hi; subst hi; exact mkI_v _ _ _
    split at hi
    · exact hc b i hi
    split at hi
    · exact ha _ (jpI_v _) b i hi
    split at hi
    · unfold rptC at hi
      split at hi
      · rcases List.mem_append.1 hi with hi | hi
        · exact repC_v hc _ _ i hi
        · rcases List.mem_cons.1 hi with rfl | hi
          · exact spI_v _ _ _
          · rcases List.mem_append.1 hi with hi | hi
            · exact hc _ i hi
            · simp only [List.mem_cons, List.not_mem_nil, or_false] at hi; subst hi; exact jpI_v _
      · rcases List.mem_append.1 hi with hi | hi
        · exact repC_v hc _ _ i hi
        · exact optC_v (fun s => spI_v _ _ _) hc _ _ i hi
    split at hi
    · rcases List.mem_cons.1 hi with rfl | hi
      · exact mkI_v _ _ _
      · rcases List.mem_append.1 hi with hi | hi
        · exact hc _ i hi
        · simp only [List.mem_cons, List.not_mem_nil, or_false] at hi; subst hi; exact mkI_v _ _ _
    · cases hi
theorem catT_v : ∀ (ts : Trs) (b : Nat), (∀ n ∈ ts.flat, n.rs.length ≤ 1048576) → ∀ i ∈ catT ts b, InsV i
  | .nil, b, _, i, hi => by simp [catT] at hi
  | .cons t ts, b, h, i, hi => by
    simp only [Trs.flat] at h
    simp only [catT] at hi
    rcases List.mem_append.1 hi with hi | hi
    · exact codeT_v t b (fun n hn => h n (List.mem_append_left _ hn)) i hi
    · exact catT_v ts _ (fun n hn => h n (List.mem_append_right _ hn)) i hi
theorem altT_v (jp : PIns) (hj : InsV jp) : ∀ (ts : Trs) (b : Nat), (∀ n ∈ ts.flat, n.rs.length ≤ 1048576) → ∀ i ∈ altT jp ts b, InsV i
  | .nil, b, _, i, hi => by simp [altT] at hi
  | .cons t ts, b, h, i, hi => by
    simp only [Trs.flat] at h
    have h1 : ∀ n ∈ t.flat, n.rs.length ≤ 1048576 := fun n hn => h n (List.mem_append_left _ hn)
    have h2 : ∀ n ∈ ts.flat, n.rs.length ≤ 1048576 := fun n hn => h n (List.mem_append_right _ hn)
    simp only [altT] at hi
    split at hi
    · exact codeT_v t b h1 i hi
    · rcases List.mem_cons.1 hi with rfl | hi
      · exact spI_v _ _ _
      · rcases List.mem_append.1 hi with hi | hi
        · exact codeT_v t _ h1 i hi
        · rcases List.mem_cons.1 hi with rfl | hi
          · exact hj
          · exact altT_v jp hj ts _ h2 i hi
end
theorem ruleC_v {t : Tr} {b r : Nat} (h : ∀ n ∈ t.flat, n.rs.length ≤ 1048576) : ∀ i ∈ ruleC t b r, InsV i := by
  intro i hi
  unfold ruleC at hi
  rcases List.mem_cons.1 hi with rfl | hi
  · exact mkI_v _ _ _
  · rcases List.mem_append.1 hi with hi | hi
    · exact codeT_v t _ h i hi
    · simp only [List.mem_cons, List.not_mem_nil, or_false] at hi
      rcases hi with rfl | rfl
      · exact mkI_v _ _ _
      · exact mkI_v _ _ _
end Go.Proofs.Ytbdilgkfnacahaa
