/-
  Is a program right? Both texts.
-/
import Derived.Test.YtbdilgkfnacahaaJg
import Derived.Test.YtbdilgkfnacahaaJi
namespace Go.Proofs.Ytbdilgkfnacahaa
open Go.V Go
set_option maxRecDepth 100000
set_option maxHeartbeats 4000000
set_option linter.unusedSimpArgs false
set_option linter.unusedVariables false

noncomputable def dec (q : Prop) : Bool := @decide q (Classical.propDecidable q)
theorem dec_yes {q : Prop} (h : q) : dec q = true := @decide_eq_true q (Classical.propDecidable q) h
theorem dec_no {q : Prop} (h : ¬ q) : dec q = false := @decide_eq_false q (Classical.propDecidable q) h

/-- no instruction that is reached is another rule's match -/
def ownMatch (p : Pg) (r : Nat) (s : Int) (n : Nat) : Prop := ∀ pc i, pc < n → (reachS p.code s)[pc]? = some true → p.code[pc]? = some i → i.op = 7 → i.x = (r : Int)

/-- a program that may run -/
structure RightQ (p : Pg) : Prop where
  cl : p.code.length ≤ 400
  sl : p.starts.length ≤ 8
  sh : ∀ pc i, p.code[pc]? = some i → shapedS p.code.length p.starts.length pc i = true
  st : ∀ v ∈ p.starts, 0 ≤ v ∧ v < (p.code.length : Int)
  fo : ∀ r s, p.starts[r]? = some s → ownMatch p r s p.code.length

theorem closed_of {p : Pg} (h : ∀ pc i, p.code[pc]? = some i → shapedS p.code.length p.starts.length pc i = true) : closedS p.code :=
  fun pc i hi => shaped_next (h pc i hi)
theorem RightQ.closed {p : Pg} (h : RightQ p) : closedS p.code := closed_of h.sh
theorem inS_iff {a b : Int} : inS a b = true ↔ 0 ≤ a ∧ a < b := by
  unfold inS; simp only [Bool.and_eq_true, decide_eq_true_eq, ge_iff_le]
theorem inS_not {a b : Int} (h : inS a b = false) : ¬ (0 ≤ a ∧ a < b) := fun g => by rw [inS_iff.2 g] at h; cases h

theorem checkRight_ev {s0 : St} {p : Pg} (hp : p.ok) : Ev pv 27 [p.d] s0 (.bool (dec (RightQ p))) s0 := by
  refine Ev.mk1 rfl fi27 rfl rfl rfl ?_
  dsimp only [List.cons_append, List.nil_append, List.length, Nat.reduceSub, Nat.reduceAdd, List.replicate_succ, List.replicate_zero]
  have hSb : (enterSt .ro s0).bs = s0.bs := rfl
  have hF : (enterSt .ro s0).flr ≤ s0.bs.length := Nat.le_refl _
  have hH : Has s0.bs.length (enterSt .ro s0) (enterSt .ro s0) [] := Has.start (Nat.le_refl _) (Nat.le_refl _)
  generalize enterSt .ro s0 = S at *
  have hc := hp.c.arg s0.bs.length S
  have hs := hp.s.arg s0.bs.length S
  have hcd := hp.c
  have hlen := hp.cl
  have hsl0 := hp.sl
  unfold Pg.d
  try change EvC _ _ _ _ _ _
  repeat refine EvC.seq ?_
  try generalize hK : SeqQ _ _ _ _ = K
  refine EvC.reg ?_
  refine EvO.hbox hH rfl rfl (fun _ => by dsimp only [Fr.put, List.set_cons_succ, List.set_cons_zero] <;> rfl) (fun k1 st hk1 hH => ?_)
  try dsimp only [List.set_cons_zero, List.set_cons_succ, List.cons_append, List.nil_append, setMany, List.map_cons, List.map_nil, D.cells, Nat.reduceAdd, List.nil_append, Pg.cs, insC, intC, boolC] at hH
  refine EvO.mv (.inr rfl) rfl (ev rfl) (by dsimp only [Fr.put, List.set_cons_succ, List.set_cons_zero] <;> rfl) ?_
  refine EvO.nil ?_
  try subst hK
  try change EvC _ _ _ _ _ _
  try change EvC _ _ _ _ _ _
  repeat refine EvC.seq ?_
  refine EvC.cutL 17 (.bool (decide ((p.code.length : Int) > 400) || decide ((p.starts.length : Int) > 8))) [8, 9, 10, 11, 12, 13, 14, 15, 16] ?_ (fun ff tmp => ?_)
  · refine EvO.pfield (fo := 0) (m := 0) (o := 0) rfl (ev rfl) rfl rfl rfl (by dsimp only [Fr.put, List.set_cons_succ, List.set_cons_zero] <;> rfl) ?_
    refine EvO.hload hH rfl (ev rfl) (by exact at0) rfl (by dsimp only [Fr.put, List.set_cons_succ, List.set_cons_zero] <;> rfl) ?_
    refine EvO.rlen rfl (ev rfl) (Arg.rows (by assumption) hH) rfl (by dsimp only [Fr.put, List.set_cons_succ, List.set_cons_zero] <;> rfl) ?_
    try simp only [List.length_map, List.length_append, List.length_cons, List.length_nil, List.length_set, List.length_replicate, List.length_reverse]
    refine EvO.go rfl rfl rfl (by dsimp only [Fr.put, List.set_cons_succ, List.set_cons_zero] <;> rfl) ?_
    refine EvO.mv (.inl rfl) rfl (ev rfl) (by dsimp only [Fr.put, List.set_cons_succ, List.set_cons_zero] <;> rfl) ?_
    refine EvO.two 12 rfl (fun hg4 => ?_) (fun hg4 => ?_)
    · refine EvO.skip (wantD_not rfl rfl rfl hg4) (by dsimp only [Fr.put, List.set_cons_succ, List.set_cons_zero] <;> rfl) ?_
      refine EvO.skip (wantD_not rfl rfl rfl hg4) (by dsimp only [Fr.put, List.set_cons_succ, List.set_cons_zero] <;> rfl) ?_
      refine EvO.skip (wantD_not rfl rfl rfl hg4) (by dsimp only [Fr.put, List.set_cons_succ, List.set_cons_zero] <;> rfl) ?_
      refine EvO.skip (wantD_not rfl rfl rfl hg4) (by dsimp only [Fr.put, List.set_cons_succ, List.set_cons_zero] <;> rfl) ?_
      refine EvO.pickT rfl rfl hg4 (by dsimp only [Fr.put, List.set_cons_succ, List.set_cons_zero] <;> rfl) ?_
      refine EvO.nil (leafL ?_)
      try dsimp only [setW, List.foldl_cons, List.foldl_nil, nth, List.set_cons_zero, List.set_cons_succ]
      try dsimp only [Fr.putO, Fr.put, Fr.clean, Fr.ev, Fr.get, nth, Go.V.look, List.set_cons_succ, List.set_cons_zero, ofVal_int, ofVal_bool, ofVal_str, ofVal_nul, ofVal_pnil, ofVal_nilfn, ofVal_nilif, List.length, List.cons_append, List.nil_append, List.append_nil, Nat.reduceSub, Nat.reduceAdd, List.map, List.map_cons, List.map_nil]
      all_goals (simp [hg4]; done)
    · refine EvO.pfield (fo := 1) (m := 0) (o := 1) (wantD_is rfl rfl rfl hg4) (ev rfl) rfl rfl rfl (by dsimp only [Fr.put, List.set_cons_succ, List.set_cons_zero] <;> rfl) ?_
      refine EvO.hload hH (wantD_is rfl rfl rfl hg4) (ev rfl) (by exact at0) rfl (by dsimp only [Fr.put, List.set_cons_succ, List.set_cons_zero] <;> rfl) ?_
      refine EvO.rlen (wantD_is rfl rfl rfl hg4) (ev rfl) (Arg.rows (by assumption) hH) rfl (by dsimp only [Fr.put, List.set_cons_succ, List.set_cons_zero] <;> rfl) ?_
      try simp only [List.length_map, List.length_append, List.length_cons, List.length_nil, List.length_set, List.length_replicate, List.length_reverse]
      refine EvO.go (wantD_is rfl rfl rfl hg4) rfl rfl (by dsimp only [Fr.put, List.set_cons_succ, List.set_cons_zero] <;> rfl) ?_
      refine EvO.pickF rfl rfl hg4 (by dsimp only [Fr.put, List.set_cons_succ, List.set_cons_zero] <;> rfl) ?_
      refine EvO.nil (leafL ?_)
      try dsimp only [setW, List.foldl_cons, List.foldl_nil, nth, List.set_cons_zero, List.set_cons_succ]
      try dsimp only [Fr.putO, Fr.put, Fr.clean, Fr.ev, Fr.get, nth, Go.V.look, List.set_cons_succ, List.set_cons_zero, ofVal_int, ofVal_bool, ofVal_str, ofVal_nul, ofVal_pnil, ofVal_nilfn, ofVal_nilif, List.length, List.cons_append, List.nil_append, List.append_nil, Nat.reduceSub, Nat.reduceAdd, List.map, List.map_cons, List.map_nil]
      all_goals (simp [hg4]; done)
  try dsimp only [setW, List.foldl_cons, List.foldl_nil, nth, List.set_cons_zero, List.set_cons_succ]
  generalize ff 8 = e8
  generalize ff 9 = e9
  generalize ff 10 = e10
  generalize ff 11 = e11
  generalize ff 12 = e12
  generalize ff 13 = e13
  generalize ff 14 = e14
  generalize ff 15 = e15
  generalize ff 16 = e16
  try dsimp only [Fr.putO, Fr.put, Fr.clean, Fr.ev, Fr.get, nth, Go.V.look, List.set_cons_succ, List.set_cons_zero, ofVal_int, ofVal_bool, ofVal_str, ofVal_nul, ofVal_pnil, ofVal_nilfn, ofVal_nilif, List.length, List.cons_append, List.nil_append, List.append_nil, Nat.reduceSub, Nat.reduceAdd, List.map, List.map_cons, List.map_nil]
  try change EvC _ _ _ _ _ _
  try change EvC _ _ _ _ _ _
  repeat refine EvC.seq ?_
  refine EvC.cond (by rfl) (fun h0 => ?_) (fun h0 => ?_) <;> try simp only [decide_eq_true_eq, decide_eq_false_iff_not, beq_iff_eq, beq_eq_false_iff_ne, bne_iff_ne, bne_eq_false_iff_eq, ne_eq, Bool.not_eq_true', Bool.not_eq_false', Bool.not_eq_true, Bool.not_eq_false] at h0
  · rw [dec_no (fun h => by have := h.cl; have := h.sl; simp at h0; omega)]
    try change EvC _ _ _ _ _ _
    repeat refine EvC.seq ?_
    try generalize hK : SeqQ _ _ _ _ = K
    refine EvC.reg ?_
    refine EvO.mv (.inr rfl) rfl (ev rfl) (by dsimp only [Fr.put, List.set_cons_succ, List.set_cons_zero] <;> rfl) ?_
    refine EvO.nil ?_
    try subst hK
    try change EvC _ _ _ _ _ _
    refine EvC.ret ⟨fun i h => (by cases h), _, rfl, leave_ro (by simp) hSb hH (rfl)⟩
  · have h0 : p.code.length ≤ 400 ∧ p.starts.length ≤ 8 := by simp at h0; omega
    refine EvC.skip ?_
    try change EvC _ _ _ _ _ _
    try change EvC _ _ _ _ _ _
    repeat refine EvC.seq ?_
    try generalize hK : SeqQ _ _ _ _ = K
    refine EvC.reg ?_
    refine EvO.pfield (fo := 0) (m := 0) (o := 0) rfl (ev rfl) rfl rfl rfl (by dsimp only [Fr.put, List.set_cons_succ, List.set_cons_zero] <;> rfl) ?_
    refine EvO.hload hH rfl (ev rfl) (by exact at0) rfl (by dsimp only [Fr.put, List.set_cons_succ, List.set_cons_zero] <;> rfl) ?_
    refine EvO.rlen rfl (ev rfl) (Arg.rows (by assumption) hH) rfl (by dsimp only [Fr.put, List.set_cons_succ, List.set_cons_zero] <;> rfl) ?_
    try simp only [List.length_map, List.length_append, List.length_cons, List.length_nil, List.length_set, List.length_replicate, List.length_reverse]
    refine EvO.mv (.inl rfl) rfl (ev rfl) (by dsimp only [Fr.put, List.set_cons_succ, List.set_cons_zero] <;> rfl) ?_
    refine EvO.nil ?_
    try subst hK
    try change EvC _ _ _ _ _ _
    try change EvC _ _ _ _ _ _
    repeat refine EvC.seq ?_
    refine EvC.block ?_
    refine EvC.loop (fun mm fr st => ∃ (i : Nat) (d0 d3 d4 d5 d6 d7 d8 d9 d10 d11 d12 d13 d14 d15 d16 d17 d18 d19 d22 d23 d24 d25 d26 d27 d28 d29 d30 d31 d32 d33 d34 d35 d36 d37 d38 d39 d40 d41 d42 d43 d44 d45 d46 d47 d48 : D), fr.clean = ⟨49, [d0, .ptr k1 0 0, .bool false, d3, d4, d5, d6, d7, d8, d9, d10, d11, d12, d13, d14, d15, d16, d17, d18, d19, .int .i64 (p.code.length : Nat), .int .i64 (i : Nat), d22, d23, d24, d25, d26, d27, d28, d29, d30, d31, d32, d33, d34, d35, d36, d37, d38, d39, d40, d41, d42, d43, d44, d45, d46, d47, d48], []⟩ ∧ Has s0.bs.length S st [.box k1 (.mem 0 false [p.cd, p.sd])] ∧ (i + mm = p.code.length) ∧ (∀ pc q, pc < i → p.code[pc]? = some q → shapedS p.code.length p.starts.length pc q = true)) (p.code.length) ?_ ?_
    · exact ⟨0, _, _, _, _, _, _, _, _, _, _, _, _, _, _, _, _, _, _, _, _, _, _, _, _, _, _, _, _, _, _, _, _, _, _, _, _, _, _, _, _, _, _, _, _, _, rfl, hH, by omega, by intro pc q h; omega⟩
    rintro mm fr st ⟨i, d0, d3, d4, d5, d6, d7, d8, d9, d10, d11, d12, d13, d14, d15, d16, d17, d18, d19, d22, d23, d24, d25, d26, d27, d28, d29, d30, d31, d32, d33, d34, d35, d36, d37, d38, d39, d40, d41, d42, d43, d44, d45, d46, d47, d48, hfr, hH, hi, hsh⟩
    rw [hfr]
    try change EvC _ _ _ _ _ _
    try change EvC _ _ _ _ _ _
    repeat refine EvC.seq ?_
    try generalize hK : SeqQ _ _ _ _ = K
    refine EvC.reg ?_
    refine EvO.go rfl rfl rfl (by dsimp only [Fr.put, List.set_cons_succ, List.set_cons_zero] <;> rfl) ?_
    refine EvO.nil ?_
    try subst hK
    try change EvC _ _ _ _ _ _
    try change EvC _ _ _ _ _ _
    repeat refine EvC.seq ?_
    refine EvC.cond (by rfl) (fun h1 => ?_) (fun h1 => ?_) <;> try simp only [decide_eq_true_eq, decide_eq_false_iff_not, beq_iff_eq, beq_eq_false_iff_ne, bne_iff_ne, bne_eq_false_iff_eq, ne_eq, Bool.not_eq_true', Bool.not_eq_false', Bool.not_eq_true, Bool.not_eq_false] at h1
    · refine EvC.skip ?_
      try change EvC _ _ _ _ _ _
      obtain ⟨q, hq⟩ : ∃ q, p.code[i]? = some q := ⟨p.code[i]'(by omega), List.getElem?_eq_getElem _⟩
      try change EvC _ _ _ _ _ _
      repeat refine EvC.seq ?_
      refine EvC.block ?_
      try change EvC _ _ _ _ _ _
      repeat refine EvC.seq ?_
      try generalize hK : SeqQ _ _ _ _ = K
      refine EvC.reg ?_
      refine EvO.mv (.inl rfl) rfl (ev rfl) (by dsimp only [Fr.put, List.set_cons_succ, List.set_cons_zero] <;> rfl) ?_
      refine EvO.mv (.inr rfl) rfl (ev rfl) (by dsimp only [Fr.put, List.set_cons_succ, List.set_cons_zero] <;> rfl) ?_
      refine EvO.nil ?_
      try subst hK
      try change EvC _ _ _ _ _ _
      try change EvC _ _ _ _ _ _
      repeat refine EvC.seq ?_
      try generalize hK : SeqQ _ _ _ _ = K
      refine EvC.reg ?_
      refine EvO.hloadS (m := 2) hH rfl (ev rfl) (by exact at0) (by dsimp only [List.drop_succ_cons, List.drop_zero, List.take_succ_cons, List.take_zero, Pg.cs, insC, intC, boolC] <;> rfl) rfl rfl (by dsimp only [Fr.put, List.set_cons_succ, List.set_cons_zero] <;> rfl) ?_
      refine EvO.mv (.inl rfl) rfl (ev rfl) (by dsimp only [Fr.put, List.set_cons_succ, List.set_cons_zero] <;> rfl) ?_
      refine EvO.hcall rfl rfl (shaped_ev (p := p) hp hq) (by dsimp only [Fr.put, List.set_cons_succ, List.set_cons_zero] <;> rfl) ?_
      refine EvO.go rfl rfl rfl (by dsimp only [Fr.put, List.set_cons_succ, List.set_cons_zero] <;> rfl) ?_
      refine EvO.nil ?_
      try subst hK
      try change EvC _ _ _ _ _ _
      try change EvC _ _ _ _ _ _
      repeat refine EvC.seq ?_
      refine EvC.cond (by rfl) (fun h2 => ?_) (fun h2 => ?_) <;> try simp only [decide_eq_true_eq, decide_eq_false_iff_not, beq_iff_eq, beq_eq_false_iff_ne, bne_iff_ne, bne_eq_false_iff_eq, ne_eq, Bool.not_eq_true', Bool.not_eq_false', Bool.not_eq_true, Bool.not_eq_false] at h2
      · rw [dec_no (fun h => by have := h.sh i q hq; rw [this] at h2; cases h2)]
        try change EvC _ _ _ _ _ _
        repeat refine EvC.seq ?_
        try generalize hK : SeqQ _ _ _ _ = K
        refine EvC.reg ?_
        refine EvO.mv (.inr rfl) rfl (ev rfl) (by dsimp only [Fr.put, List.set_cons_succ, List.set_cons_zero] <;> rfl) ?_
        refine EvO.nil ?_
        try subst hK
        try change EvC _ _ _ _ _ _
        refine EvC.ret ⟨fun i h => (by cases h), _, rfl, leave_ro (by simp) hSb hH (rfl)⟩
      · refine EvC.skip ?_
        try change EvC _ _ _ _ _ _
        try change EvC _ _ _ _ _ _
        repeat refine EvC.seq ?_
        try generalize hK : SeqQ _ _ _ _ = K
        refine EvC.reg ?_
        refine EvO.addS64 rfl (ev rfl) (ev rfl) (by omega) (by omega) (by dsimp only [Fr.put, List.set_cons_succ, List.set_cons_zero] <;> rfl) ?_
        refine EvO.mv (.inl rfl) rfl (ev rfl) (by dsimp only [Fr.put, List.set_cons_succ, List.set_cons_zero] <;> rfl) ?_
        refine EvO.nil ?_
        try subst hK
        try change EvC _ _ _ _ _ _
        refine ⟨mm - 1, by omega, ⟨i + 1, _, _, _, _, _, _, _, _, _, _, _, _, _, _, _, _, _, _, _, _, _, _, _, _, _, _, _, _, _, _, _, _, _, _, _, _, _, _, _, _, _, _, _, _, _, rfl, hH, by omega, ?_⟩⟩
        intro pc q' hpc hq'
        by_cases he : pc = i
        · subst he; rw [hq] at hq'; cases hq'; simpa using h2
        · exact hsh pc q' (by omega) hq'
    · try change EvC _ _ _ _ _ _
      refine EvC.exit ?_
      try change EvC _ _ _ _ _ _
      have hsh : ∀ pc q, p.code[pc]? = some q → shapedS p.code.length p.starts.length pc q = true := fun pc q hq => hsh pc q (by have := lt_get hq; omega) hq
      have hcl := closed_of hsh
      try change EvC _ _ _ _ _ _
      repeat refine EvC.seq ?_
      try generalize hK : SeqQ _ _ _ _ = K
      refine EvC.reg ?_
      refine EvO.pfield (fo := 1) (m := 0) (o := 1) rfl (ev rfl) rfl rfl rfl (by dsimp only [Fr.put, List.set_cons_succ, List.set_cons_zero] <;> rfl) ?_
      refine EvO.hload hH rfl (ev rfl) (by exact at0) rfl (by dsimp only [Fr.put, List.set_cons_succ, List.set_cons_zero] <;> rfl) ?_
      refine EvO.rlen rfl (ev rfl) (Arg.rows (by assumption) hH) rfl (by dsimp only [Fr.put, List.set_cons_succ, List.set_cons_zero] <;> rfl) ?_
      try simp only [List.length_map, List.length_append, List.length_cons, List.length_nil, List.length_set, List.length_replicate, List.length_reverse]
      refine EvO.mv (.inl rfl) rfl (ev rfl) (by dsimp only [Fr.put, List.set_cons_succ, List.set_cons_zero] <;> rfl) ?_
      refine EvO.nil ?_
      try subst hK
      try change EvC _ _ _ _ _ _
      try change EvC _ _ _ _ _ _
      repeat refine EvC.seq ?_
      refine EvC.block ?_
      refine EvC.loop (fun mm fr st => ∃ (r : Nat) (d0 d3 d4 d5 d6 d7 d8 d9 d10 d11 d12 d13 d14 d15 d16 d17 d18 d19 d20 d21 d22 d23 d24 d25 d26 d27 d28 d29 d33 d34 d35 d36 d37 d38 d39 d40 d41 d42 d43 d44 d45 d46 d47 d48 : D), fr.clean = ⟨49, [d0, .ptr k1 0 0, .bool false, d3, d4, d5, d6, d7, d8, d9, d10, d11, d12, d13, d14, d15, d16, d17, d18, d19, d20, d21, d22, d23, d24, d25, d26, d27, d28, d29, p.sd, .int .i64 (p.starts.length : Nat), .int .i64 (r : Nat), d33, d34, d35, d36, d37, d38, d39, d40, d41, d42, d43, d44, d45, d46, d47, d48], []⟩ ∧ Has s0.bs.length S st [.box k1 (.mem 0 false [p.cd, p.sd])] ∧ (r + mm = p.starts.length) ∧ (∀ r' s, r' < r → p.starts[r']? = some s → (0 ≤ s ∧ s < (p.code.length : Int)) ∧ ownMatch p r' s p.code.length)) (p.starts.length) ?_ ?_
      · exact ⟨0, _, _, _, _, _, _, _, _, _, _, _, _, _, _, _, _, _, _, _, _, _, _, _, _, _, _, _, _, _, _, _, _, _, _, _, _, _, _, _, _, _, _, _, _, rfl, hH, by omega, by intro pc q h; omega⟩
      rintro mm fr st ⟨r, d0, d3, d4, d5, d6, d7, d8, d9, d10, d11, d12, d13, d14, d15, d16, d17, d18, d19, d20, d21, d22, d23, d24, d25, d26, d27, d28, d29, d33, d34, d35, d36, d37, d38, d39, d40, d41, d42, d43, d44, d45, d46, d47, d48, hfr, hH, hi, hok⟩
      rw [hfr]
      try change EvC _ _ _ _ _ _
      try change EvC _ _ _ _ _ _
      repeat refine EvC.seq ?_
      try generalize hK : SeqQ _ _ _ _ = K
      refine EvC.reg ?_
      refine EvO.go rfl rfl rfl (by dsimp only [Fr.put, List.set_cons_succ, List.set_cons_zero] <;> rfl) ?_
      refine EvO.nil ?_
      try subst hK
      try change EvC _ _ _ _ _ _
      try change EvC _ _ _ _ _ _
      repeat refine EvC.seq ?_
      refine EvC.cond (by rfl) (fun h3 => ?_) (fun h3 => ?_) <;> try simp only [decide_eq_true_eq, decide_eq_false_iff_not, beq_iff_eq, beq_eq_false_iff_ne, bne_iff_ne, bne_eq_false_iff_eq, ne_eq, Bool.not_eq_true', Bool.not_eq_false', Bool.not_eq_true, Bool.not_eq_false] at h3
      · refine EvC.skip ?_
        try change EvC _ _ _ _ _ _
        obtain ⟨s, hs1⟩ : ∃ s, p.starts[r]? = some s := ⟨p.starts[r]'(by omega), List.getElem?_eq_getElem _⟩
        have hr0 := int_get hs1
        try change EvC _ _ _ _ _ _
        repeat refine EvC.seq ?_
        refine EvC.block ?_
        try change EvC _ _ _ _ _ _
        repeat refine EvC.seq ?_
        try generalize hK : SeqQ _ _ _ _ = K
        refine EvC.reg ?_
        refine EvO.mv (.inl rfl) rfl (ev rfl) (by dsimp only [Fr.put, List.set_cons_succ, List.set_cons_zero] <;> rfl) ?_
        refine EvO.ridx rfl (ev rfl) (ev rfl) (Arg.rows (by assumption) hH) rfl rfl (by assumption) (fun _ => by dsimp only [Fr.put, List.set_cons_succ, List.set_cons_zero] <;> rfl) (fun p35 hp35 => ?_)
        refine EvO.rload rfl (ev rfl) (by assumption) rfl (by dsimp only [Fr.put, List.set_cons_succ, List.set_cons_zero] <;> rfl) ?_
        refine EvO.mv (.inr rfl) rfl (ev rfl) (by dsimp only [Fr.put, List.set_cons_succ, List.set_cons_zero] <;> rfl) ?_
        refine EvO.mv (.inr rfl) rfl (ev rfl) (by dsimp only [Fr.put, List.set_cons_succ, List.set_cons_zero] <;> rfl) ?_
        refine EvO.nil ?_
        try subst hK
        try change EvC _ _ _ _ _ _
        try change EvC _ _ _ _ _ _
        repeat refine EvC.seq ?_
        try generalize hK : SeqQ _ _ _ _ = K
        refine EvC.reg ?_
        refine EvO.mv (.inl rfl) rfl (ev rfl) (by dsimp only [Fr.put, List.set_cons_succ, List.set_cons_zero] <;> rfl) ?_
        refine EvO.pfield (fo := 0) (m := 0) (o := 0) rfl (ev rfl) rfl rfl rfl (by dsimp only [Fr.put, List.set_cons_succ, List.set_cons_zero] <;> rfl) ?_
        refine EvO.hload hH rfl (ev rfl) (by exact at0) rfl (by dsimp only [Fr.put, List.set_cons_succ, List.set_cons_zero] <;> rfl) ?_
        refine EvO.rlen rfl (ev rfl) (Arg.rows (by assumption) hH) rfl (by dsimp only [Fr.put, List.set_cons_succ, List.set_cons_zero] <;> rfl) ?_
        try simp only [List.length_map, List.length_append, List.length_cons, List.length_nil, List.length_set, List.length_replicate, List.length_reverse]
        refine EvO.hcall rfl rfl (within_ev _ _) (by dsimp only [Fr.put, List.set_cons_succ, List.set_cons_zero] <;> rfl) ?_
        refine EvO.go rfl rfl rfl (by dsimp only [Fr.put, List.set_cons_succ, List.set_cons_zero] <;> rfl) ?_
        refine EvO.nil ?_
        try subst hK
        try change EvC _ _ _ _ _ _
        try change EvC _ _ _ _ _ _
        repeat refine EvC.seq ?_
        refine EvC.cond (by rfl) (fun h4 => ?_) (fun h4 => ?_) <;> try simp only [decide_eq_true_eq, decide_eq_false_iff_not, beq_iff_eq, beq_eq_false_iff_ne, bne_iff_ne, bne_eq_false_iff_eq, ne_eq, Bool.not_eq_true', Bool.not_eq_false', Bool.not_eq_true, Bool.not_eq_false] at h4
        · rw [dec_no (fun h => by have := inS_iff.2 (h.st s (List.mem_of_getElem? hs1)); rw [this] at h4; cases h4)]
          try change EvC _ _ _ _ _ _
          repeat refine EvC.seq ?_
          try generalize hK : SeqQ _ _ _ _ = K
          refine EvC.reg ?_
          refine EvO.mv (.inr rfl) rfl (ev rfl) (by dsimp only [Fr.put, List.set_cons_succ, List.set_cons_zero] <;> rfl) ?_
          refine EvO.nil ?_
          try subst hK
          try change EvC _ _ _ _ _ _
          refine EvC.ret ⟨fun i h => (by cases h), _, rfl, leave_ro (by simp) hSb hH (rfl)⟩
        · have hsin := inS_iff.1 (show inS s p.code.length = true by simpa using h4)
          refine EvC.skip ?_
          try change EvC _ _ _ _ _ _
          have hrl := reachS_len p.code s
          have hra := (boolsV_sl (reachS p.code s)).arg s0.bs.length S
          try change EvC _ _ _ _ _ _
          repeat refine EvC.seq ?_
          try generalize hK : SeqQ _ _ _ _ = K
          refine EvC.reg ?_
          refine EvO.pfield (fo := 0) (m := 0) (o := 0) rfl (ev rfl) rfl rfl rfl (by dsimp only [Fr.put, List.set_cons_succ, List.set_cons_zero] <;> rfl) ?_
          refine EvO.hload hH rfl (ev rfl) (by exact at0) rfl (by dsimp only [Fr.put, List.set_cons_succ, List.set_cons_zero] <;> rfl) ?_
          refine EvO.mv (.inl rfl) rfl (ev rfl) (by dsimp only [Fr.put, List.set_cons_succ, List.set_cons_zero] <;> rfl) ?_
          refine EvO.hcall rfl rfl (from_ev hcd hlen hcl hsin) (by dsimp only [Fr.put, List.set_cons_succ, List.set_cons_zero] <;> rfl) ?_
          refine EvO.rlen rfl (ev rfl) (Arg.rows (by assumption) hH) rfl (by dsimp only [Fr.put, List.set_cons_succ, List.set_cons_zero] <;> rfl) ?_
          try simp only [List.length_map, List.length_append, List.length_cons, List.length_nil, List.length_set, List.length_replicate, List.length_reverse]
          refine EvO.mv (.inl rfl) rfl (ev rfl) (by dsimp only [Fr.put, List.set_cons_succ, List.set_cons_zero] <;> rfl) ?_
          refine EvO.nil ?_
          try subst hK
          try change EvC _ _ _ _ _ _
          try change EvC _ _ _ _ _ _
          repeat refine EvC.seq ?_
          refine EvC.block ?_
          refine EvC.loop (fun mm fr st => ∃ (i : Nat) (d0 d3 d5 d6 d7 d8 d9 d10 d11 d12 d13 d14 d15 d16 d17 d18 d19 d20 d21 d22 d23 d24 d25 d26 d27 d28 d29 d33 d34 d35 d36 d37 d38 d39 d40 d41 d42 d43 d44 d45 : D), fr.clean = ⟨49, [d0, .ptr k1 0 0, .bool false, d3, .int .i64 (r : Nat), d5, d6, d7, d8, d9, d10, d11, d12, d13, d14, d15, d16, d17, d18, d19, d20, d21, d22, d23, d24, d25, d26, d27, d28, d29, p.sd, .int .i64 (p.starts.length : Nat), .int .i64 (r : Nat), d33, d34, d35, d36, d37, d38, d39, d40, d41, d42, d43, d44, d45, boolsV (reachS p.code s), .int .i64 ((reachS p.code s).length : Nat), .int .i64 (i : Nat)], []⟩ ∧ Has s0.bs.length S st [.box k1 (.mem 0 false [p.cd, p.sd])] ∧ (i + mm = p.code.length) ∧ (ownMatch p r s i)) (p.code.length) ?_ ?_
          · exact ⟨0, _, _, _, _, _, _, _, _, _, _, _, _, _, _, _, _, _, _, _, _, _, _, _, _, _, _, _, _, _, _, _, _, _, _, _, _, _, _, _, _, rfl, hH, by omega, by intro pc q h; omega⟩
          rintro mm fr st ⟨i, d0, d3, d5, d6, d7, d8, d9, d10, d11, d12, d13, d14, d15, d16, d17, d18, d19, d20, d21, d22, d23, d24, d25, d26, d27, d28, d29, d33, d34, d35, d36, d37, d38, d39, d40, d41, d42, d43, d44, d45, hfr, hH, hj, hom⟩
          rw [hfr]
          try change EvC _ _ _ _ _ _
          try change EvC _ _ _ _ _ _
          repeat refine EvC.seq ?_
          try generalize hK : SeqQ _ _ _ _ = K
          refine EvC.reg ?_
          refine EvO.go rfl rfl rfl (put_T rfl _) ?_
          refine EvO.nil ?_
          try subst hK
          try change EvC _ _ _ _ _ _
          try change EvC _ _ _ _ _ _
          repeat refine EvC.seq ?_
          refine EvC.cond (by rfl) (fun h5 => ?_) (fun h5 => ?_) <;> try simp only [decide_eq_true_eq, decide_eq_false_iff_not, beq_iff_eq, beq_eq_false_iff_ne, bne_iff_ne, bne_eq_false_iff_eq, ne_eq, Bool.not_eq_true', Bool.not_eq_false', Bool.not_eq_true, Bool.not_eq_false] at h5
          · refine EvC.skip ?_
            try change EvC _ _ _ _ _ _
            obtain ⟨b, hb⟩ : ∃ b, (reachS p.code s)[i]? = some b := ⟨(reachS p.code s)[i]'(by omega), List.getElem?_eq_getElem _⟩
            obtain ⟨q, hq⟩ : ∃ q, p.code[i]? = some q := ⟨p.code[i]'(by omega), List.getElem?_eq_getElem _⟩
            have hr1 := bool_get hb
            have hr2 := ins_get hq
            try change EvC _ _ _ _ _ _
            repeat refine EvC.seq ?_
            refine EvC.block ?_
            try change EvC _ _ _ _ _ _
            repeat refine EvC.seq ?_
            try generalize hK : SeqQ _ _ _ _ = K
            refine EvC.reg ?_
            refine EvO.mv (.inl rfl) rfl (ev rfl) (put_T rfl _) ?_
            refine EvO.ridx rfl (ev rfl) (ev rfl) (Arg.rows (by assumption) hH) rfl rfl (by assumption) (fun _ => (put_T rfl _)) (fun p51 hp51 => ?_)
            refine EvO.rload rfl (ev rfl) (by assumption) rfl (put_T rfl _) ?_
            refine EvO.mv (.inr rfl) rfl (ev rfl) (by dsimp only [Fr.put, List.set_cons_succ, List.set_cons_zero] <;> rfl) ?_
            refine EvO.mv (.inr rfl) rfl (ev rfl) (by dsimp only [Fr.put, List.set_cons_succ, List.set_cons_zero] <;> rfl) ?_
            refine EvO.nil ?_
            try subst hK
            try change EvC _ _ _ _ _ _
            try change EvC _ _ _ _ _ _
            repeat refine EvC.seq ?_
            refine EvC.cutT 72 (.bool ((b && (q.op == 7)) && (q.x != (r : Int)))) [] ?_ (fun ff tmp htmp => ?_)
            · refine EvO.mv (.inl rfl) rfl (ev rfl) (put_T rfl _) ?_
              refine EvO.mv (.inl rfl) rfl (ev rfl) (put_T rfl _) ?_
              refine EvO.two 54 rfl (fun hg1 => ?_) (fun hg1 => ?_)
              · refine EvO.pfield (fo := 0) (m := 0) (o := 0) (wantD_is rfl rfl rfl hg1) (ev rfl) rfl rfl rfl (put_T rfl _) ?_
                refine EvO.hload hH (wantD_is rfl rfl rfl hg1) (ev rfl) (by exact at0) rfl (put_T rfl _) ?_
                refine EvO.mv (.inl rfl) (wantD_is rfl rfl rfl hg1) (ev rfl) (put_T rfl _) ?_
                refine EvO.ridx (wantD_is rfl rfl rfl hg1) (ev rfl) (ev rfl) (Arg.rows (by assumption) hH) rfl rfl (by assumption) (fun _ => (put_T rfl _)) (fun p58 hp58 => ?_)
                refine EvO.rfieldN (fo := 0) (m := 0) (wantD_is rfl rfl rfl hg1) (ev rfl) (by assumption) rfl rfl (fun _ => (put_T rfl _)) (fun p59 hp59 => ?_)
                refine EvO.rload (wantD_is rfl rfl rfl hg1) (ev rfl) (by assumption) rfl (put_T rfl _) ?_
                refine EvO.go (wantD_is rfl rfl rfl hg1) rfl rfl (put_T rfl _) ?_
                refine EvO.pickT rfl rfl hg1 (put_T rfl _) ?_
                refine EvO.mv (.inl rfl) rfl (ev rfl) (put_T rfl _) ?_
                refine EvO.two 63 rfl (fun hg10 => ?_) (fun hg10 => ?_)
                · refine EvO.pfield (fo := 0) (m := 0) (o := 0) (wantD_is rfl rfl rfl hg10) (ev rfl) rfl rfl rfl (put_T rfl _) ?_
                  refine EvO.hload hH (wantD_is rfl rfl rfl hg10) (ev rfl) (by exact at0) rfl (put_T rfl _) ?_
                  refine EvO.mv (.inl rfl) (wantD_is rfl rfl rfl hg10) (ev rfl) (put_T rfl _) ?_
                  refine EvO.ridx (wantD_is rfl rfl rfl hg10) (ev rfl) (ev rfl) (Arg.rows (by assumption) hH) rfl rfl (by assumption) (fun _ => (put_T rfl _)) (fun p67 hp67 => ?_)
                  refine EvO.rfieldN (fo := 1) (m := 0) (wantD_is rfl rfl rfl hg10) (ev rfl) (by assumption) rfl rfl (fun _ => (put_T rfl _)) (fun p68 hp68 => ?_)
                  refine EvO.rload (wantD_is rfl rfl rfl hg10) (ev rfl) (by assumption) rfl (put_T rfl _) ?_
                  refine EvO.mv (.inl rfl) (wantD_is rfl rfl rfl hg10) (ev rfl) (put_T rfl _) ?_
                  refine EvO.go (wantD_is rfl rfl rfl hg10) rfl rfl (put_T rfl _) ?_
                  refine EvO.pickT rfl rfl hg10 (put_T rfl _) ?_
                  refine EvO.nil (leafT ?_ ?_)
                  · try dsimp only [setW, List.foldl_cons, List.foldl_nil, nth, List.set_cons_zero, List.set_cons_succ]
                    all_goals (first | rfl | simp)
                  · try dsimp only [Fr.putO, Fr.put, Fr.clean, Fr.ev, Fr.get, nth, Go.V.look, List.set_cons_succ, List.set_cons_zero, ofVal_int, ofVal_bool, ofVal_str, ofVal_nul, ofVal_pnil, ofVal_nilfn, ofVal_nilif, List.length, List.cons_append, List.nil_append, List.append_nil, Nat.reduceSub, Nat.reduceAdd, List.map, List.map_cons, List.map_nil]
                    all_goals (simp [hg1, hg10]; done)
                · refine EvO.skip (wantD_not rfl rfl rfl hg10) (put_T rfl _) ?_
                  refine EvO.skip (wantD_not rfl rfl rfl hg10) (put_T rfl _) ?_
                  refine EvO.skip (wantD_not rfl rfl rfl hg10) (put_T rfl _) ?_
                  refine EvO.skip (wantD_not rfl rfl rfl hg10) (put_T rfl _) ?_
                  refine EvO.skip (wantD_not rfl rfl rfl hg10) (put_T rfl _) ?_
                  refine EvO.skip (wantD_not rfl rfl rfl hg10) (put_T rfl _) ?_
                  refine EvO.skip (wantD_not rfl rfl rfl hg10) (put_T rfl _) ?_
                  refine EvO.skip (wantD_not rfl rfl rfl hg10) (put_T rfl _) ?_
                  refine EvO.pickF rfl rfl hg10 (put_T rfl _) ?_
                  refine EvO.nil (leafT ?_ ?_)
                  · try dsimp only [setW, List.foldl_cons, List.foldl_nil, nth, List.set_cons_zero, List.set_cons_succ]
                    all_goals (first | rfl | simp)
                  · try dsimp only [Fr.putO, Fr.put, Fr.clean, Fr.ev, Fr.get, nth, Go.V.look, List.set_cons_succ, List.set_cons_zero, ofVal_int, ofVal_bool, ofVal_str, ofVal_nul, ofVal_pnil, ofVal_nilfn, ofVal_nilif, List.length, List.cons_append, List.nil_append, List.append_nil, Nat.reduceSub, Nat.reduceAdd, List.map, List.map_cons, List.map_nil]
                    all_goals (simp [hg1, hg10]; done)
              · refine EvO.skip (wantD_not rfl rfl rfl hg1) (put_T rfl _) ?_
                refine EvO.skip (wantD_not rfl rfl rfl hg1) (put_T rfl _) ?_
                refine EvO.skip (wantD_not rfl rfl rfl hg1) (put_T rfl _) ?_
                refine EvO.skip (wantD_not rfl rfl rfl hg1) (put_T rfl _) ?_
                refine EvO.skip (wantD_not rfl rfl rfl hg1) (put_T rfl _) ?_
                refine EvO.skip (wantD_not rfl rfl rfl hg1) (put_T rfl _) ?_
                refine EvO.skip (wantD_not rfl rfl rfl hg1) (put_T rfl _) ?_
                refine EvO.pickF rfl rfl hg1 (put_T rfl _) ?_
                refine EvO.mv (.inl rfl) rfl (ev rfl) (put_T rfl _) ?_
                refine EvO.skip rfl (put_T rfl _) ?_
                refine EvO.skip rfl (put_T rfl _) ?_
                refine EvO.skip rfl (put_T rfl _) ?_
                refine EvO.skip rfl (put_T rfl _) ?_
                refine EvO.skip rfl (put_T rfl _) ?_
                refine EvO.skip rfl (put_T rfl _) ?_
                refine EvO.skip rfl (put_T rfl _) ?_
                refine EvO.skip rfl (put_T rfl _) ?_
                refine EvO.go rfl rfl rfl (put_T rfl _) ?_
                refine EvO.nil (leafT ?_ ?_)
                · try dsimp only [setW, List.foldl_cons, List.foldl_nil, nth, List.set_cons_zero, List.set_cons_succ]
                  all_goals (first | rfl | simp)
                · try dsimp only [Fr.putO, Fr.put, Fr.clean, Fr.ev, Fr.get, nth, Go.V.look, List.set_cons_succ, List.set_cons_zero, ofVal_int, ofVal_bool, ofVal_str, ofVal_nul, ofVal_pnil, ofVal_nilfn, ofVal_nilif, List.length, List.cons_append, List.nil_append, List.append_nil, Nat.reduceSub, Nat.reduceAdd, List.map, List.map_cons, List.map_nil]
                  all_goals (simp [hg1]; done)
            try dsimp only [setW, List.foldl_cons, List.foldl_nil, nth, List.set_cons_zero, List.set_cons_succ]
            try dsimp only [Fr.putO, Fr.put, Fr.clean, Fr.ev, Fr.get, nth, Go.V.look, List.set_cons_succ, List.set_cons_zero, ofVal_int, ofVal_bool, ofVal_str, ofVal_nul, ofVal_pnil, ofVal_nilfn, ofVal_nilif, List.length, List.cons_append, List.nil_append, List.append_nil, Nat.reduceSub, Nat.reduceAdd, List.map, List.map_cons, List.map_nil]
            try change EvC _ _ _ _ _ _
            try change EvC _ _ _ _ _ _
            repeat refine EvC.seq ?_
            refine EvC.cond (by assumption) (fun h6 => ?_) (fun h6 => ?_) <;> try simp only [decide_eq_true_eq, decide_eq_false_iff_not, beq_iff_eq, beq_eq_false_iff_ne, bne_iff_ne, bne_eq_false_iff_eq, ne_eq, Bool.not_eq_true', Bool.not_eq_false', Bool.not_eq_true, Bool.not_eq_false] at h6
            · rw [dec_no (fun h => by
                have h7 := h.fo r s hs1 i q (by omega)
                simp only [Bool.and_eq_true, beq_iff_eq, bne_iff_ne, ne_eq] at h6
                obtain ⟨⟨rfl, h8⟩, h9⟩ := h6
                exact h9 (h7 hb hq h8))]
              try change EvC _ _ _ _ _ _
              repeat refine EvC.seq ?_
              try generalize hK : SeqQ _ _ _ _ = K
              refine EvC.reg ?_
              refine EvO.mv (.inr rfl) rfl (ev rfl) (by dsimp only [Fr.put, List.set_cons_succ, List.set_cons_zero] <;> rfl) ?_
              refine EvO.nil ?_
              try subst hK
              try change EvC _ _ _ _ _ _
              refine EvC.ret ⟨fun i h => (by cases h), _, rfl, leave_ro (by simp) hSb hH (rfl)⟩
            · refine EvC.skip ?_
              try change EvC _ _ _ _ _ _
              try change EvC _ _ _ _ _ _
              repeat refine EvC.seq ?_
              try generalize hK : SeqQ _ _ _ _ = K
              refine EvC.reg ?_
              refine EvO.addS64 rfl (ev rfl) (ev rfl) (by omega) (by omega) (put_T rfl _) ?_
              refine EvO.mv (.inl rfl) rfl (ev rfl) (by dsimp only [Fr.put, List.set_cons_succ, List.set_cons_zero] <;> rfl) ?_
              refine EvO.nil ?_
              try subst hK
              try change EvC _ _ _ _ _ _
              refine ⟨mm - 1, by omega, ⟨i + 1, _, _, _, _, _, _, _, _, _, _, _, _, _, _, _, _, _, _, _, _, _, _, _, _, _, _, _, _, _, _, _, _, _, _, _, _, _, _, _, _, rfl, hH, by omega, ?_⟩⟩
              intro pc q' hpc hre hq' hop
              by_cases he : pc = i
              · subst he
                rw [hq] at hq'; cases hq'
                rw [hb] at hre; cases hre
                simp [hop] at h6; exact h6
              · exact hom pc q' (by omega) hre hq' hop
          · try change EvC _ _ _ _ _ _
            refine EvC.exit ?_
            try change EvC _ _ _ _ _ _
            try change EvC _ _ _ _ _ _
            repeat refine EvC.seq ?_
            try generalize hK : SeqQ _ _ _ _ = K
            refine EvC.reg ?_
            refine EvO.addS64 rfl (ev rfl) (ev rfl) (by omega) (by omega) (put_T rfl _) ?_
            refine EvO.mv (.inl rfl) rfl (ev rfl) (by dsimp only [Fr.put, List.set_cons_succ, List.set_cons_zero] <;> rfl) ?_
            refine EvO.nil ?_
            try subst hK
            try change EvC _ _ _ _ _ _
            refine ⟨p.starts.length - (r + 1), by omega, ⟨r + 1, _, _, _, _, _, _, _, _, _, _, _, _, _, _, _, _, _, _, _, _, _, _, _, _, _, _, _, _, _, _, _, _, _, _, _, _, _, _, _, _, _, _, _, _, rfl, hH, by omega, ?_⟩⟩
            intro r' s' hr' hs'
            by_cases he : r' = r
            · subst he
              rw [hs1] at hs'; cases hs'
              exact ⟨hsin, fun pc q hpc => hom pc q (by omega)⟩
            · exact hok r' s' (by omega) hs'
      · try change EvC _ _ _ _ _ _
        refine EvC.exit ?_
        try change EvC _ _ _ _ _ _
        rw [dec_yes ⟨h0.1, h0.2, hsh, fun v hv => by
          obtain ⟨r', hr'⟩ := List.getElem?_of_mem hv
          exact (hok r' v (by have := lt_get hr'; omega) hr').1, fun r' s' hs' => (hok r' s' (by have := lt_get hs'; omega) hs').2⟩]
        try change EvC _ _ _ _ _ _
        repeat refine EvC.seq ?_
        try generalize hK : SeqQ _ _ _ _ = K
        refine EvC.reg ?_
        refine EvO.mv (.inr rfl) rfl (ev rfl) (by dsimp only [Fr.put, List.set_cons_succ, List.set_cons_zero] <;> rfl) ?_
        refine EvO.nil ?_
        try subst hK
        try change EvC _ _ _ _ _ _
        refine EvC.ret ⟨fun i h => (by cases h), _, rfl, leave_ro (by simp) hSb hH (rfl)⟩
end Go.Proofs.Ytbdilgkfnacahaa
