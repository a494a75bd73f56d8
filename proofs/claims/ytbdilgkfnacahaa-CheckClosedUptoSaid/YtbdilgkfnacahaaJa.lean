/-
  Sets of runes: what they are in cells; Has.
-/
import Derived.Test.YtbdilgkfnacahaaPx
import Derived.Test.YtbdilgkfnacahaaM2
import Derived.Test.YtbdilgkfnacahaaCb
import Derived.KernelRfl
namespace Go.Proofs.Ytbdilgkfnacahaa
open Go.V Go
set_option maxRecDepth 100000
set_option maxHeartbeats 4000000
set_option linter.unusedSimpArgs false
set_option linter.unusedVariables false

def rangeC (x : Rg) : List D := [.int .i32 x.1, .int .i32 x.2]
def rangesV (l : List Rg) : D := .sl (l.map fun x => .agg (rangeC x))
theorem rangesV_el (l : List Rg) : D.sl ((l.map rangeC).map (elD 2)) = rangesV l := by
  unfold rangesV; rw [List.map_map]; rfl
theorem range_plain (l : List Rg) : ∀ e ∈ l.map rangeC, ∀ d ∈ e, plainC d = true := by
  intro e he d hd
  obtain ⟨x, _, rfl⟩ := List.mem_map.1 he
  simp only [rangeC, List.mem_cons, List.not_mem_nil, or_false] at hd
  rcases hd with rfl | rfl <;> rfl
theorem range_refs (l : List Rg) : refs (l.map rangeC).flatten = 0 := by
  induction l with
  | nil => rfl
  | cons x l ih => simp only [List.map_cons, List.flatten_cons, rangeC, List.cons_append, List.nil_append, refs, D.ref, ih]; rfl
theorem range_len (l : List Rg) : ∀ e ∈ l.map rangeC, e.length = 2 := by
  intro e he; obtain ⟨x, _, rfl⟩ := List.mem_map.1 he; rfl
theorem rangesV_rows (st : St) (l : List Rg) : V.Rows st 2 (rangesV l) (l.map rangeC) := by
  rw [← rangesV_el]
  exact Rows.ofFrozen (range_len l) (range_plain l)
theorem range_get {l : List Rg} {i : Nat} {q : Rg} (h : l[i]? = some q) : (l.map rangeC)[i]? = some (rangeC q) := by rw [List.getElem?_map, h]; rfl

theorem hasS_snoc (l : List Rg) (q : Rg) (r : Int) : hasS (l ++ [q]) r = (hasS l r || (decide (q.1 ≤ r) && decide (r ≤ q.2))) := by
  induction l with
  | nil => simp [hasS]
  | cons x l ih => simp only [List.cons_append, hasS, ih, Bool.or_assoc]
theorem hasS_pre {l : List Rg} {i : Nat} {r : Int} (h : hasS (l.take i) r = true) : hasS l r = true := by
  rw [hasS_iff] at h ⊢
  obtain ⟨x, h1, h2⟩ := h
  exact ⟨x, List.mem_of_mem_take h1, h2⟩

theorem refHas_ev {s0 : St} {x : D} {l : List Rg} {r : Int} (hx : V.Rows s0 2 x (l.map rangeC)) (hl : l.length ≤ 1073741824) : Ev pv 60 [x, .int .i32 r] s0 (.bool (hasS l r)) s0 := by
  refine Ev.mk1 rfl fi60 rfl rfl rfl ?_
  dsimp only [List.cons_append, List.nil_append, List.length, Nat.reduceSub, Nat.reduceAdd, List.replicate_succ, List.replicate_zero]
  have hSb : (enterSt .ro s0).bs = s0.bs := rfl
  have hF : (enterSt .ro s0).flr ≤ s0.bs.length := Nat.le_refl _
  have hH : Has s0.bs.length (enterSt .ro s0) (enterSt .ro s0) [] := Has.start (Nat.le_refl _) (Nat.le_refl _)
  generalize enterSt .ro s0 = S at *
  have hx := Arg.of hx hSb
  try change EvC _ _ _ _ _ _
  repeat refine EvC.seq ?_
  try generalize hK : SeqQ _ _ _ _ = K
  refine EvC.reg ?_
  refine EvO.mv (.inr rfl) rfl (ev rfl) (by dsimp only [Fr.put, List.set_cons_succ, List.set_cons_zero] <;> rfl) ?_
  refine EvO.nil ?_
  try subst hK
  try change EvC _ _ _ _ _ _
  try change EvC _ _ _ _ _ _
  repeat refine EvC.seq ?_
  try generalize hK : SeqQ _ _ _ _ = K
  refine EvC.reg ?_
  refine EvO.mv (.inr rfl) rfl (ev rfl) (by dsimp only [Fr.put, List.set_cons_succ, List.set_cons_zero] <;> rfl) ?_
  refine EvO.nil ?_
  try subst hK
  try change EvC _ _ _ _ _ _
  try change EvC _ _ _ _ _ _
  repeat refine EvC.seq ?_
  refine EvC.block ?_
  refine EvC.loop (fun mm fr st => ∃ (i : Nat) (d2 d3 : D), fr.clean = ⟨6, [x, .int .i32 r, d2, d3, .bool false, .int .i64 (i : Nat)], []⟩ ∧ Has s0.bs.length S st [] ∧ (i + mm = l.length) ∧ (hasS (l.take i) r = false)) (l.length) ?_ ?_
  · exact ⟨0, _, _, rfl, hH, by omega, rfl⟩
  rintro mm fr st ⟨i, d2, d3, hfr, hH, hi, hn⟩
  rw [hfr]
  try change EvC _ _ _ _ _ _
  try change EvC _ _ _ _ _ _
  repeat refine EvC.seq ?_
  try generalize hK : SeqQ _ _ _ _ = K
  refine EvC.reg ?_
  refine EvO.mv (.inl rfl) rfl (ev rfl) (put_T rfl _) ?_
  refine EvO.mv (.inl rfl) rfl (ev rfl) (put_T rfl _) ?_
  refine EvO.rlen rfl (ev rfl) (Arg.rows (by assumption) hH) rfl (put_T rfl _) ?_
  try simp only [List.length_map, List.length_append, List.length_cons, List.length_nil, List.length_set, List.length_replicate, List.length_reverse]
  refine EvO.go rfl rfl rfl (put_T rfl _) ?_
  refine EvO.nil ?_
  try subst hK
  try change EvC _ _ _ _ _ _
  try change EvC _ _ _ _ _ _
  repeat refine EvC.seq ?_
  refine EvC.cond (by rfl) (fun h1 => ?_) (fun h1 => ?_) <;> try simp only [decide_eq_true_eq, decide_eq_false_iff_not, beq_iff_eq, beq_eq_false_iff_ne, bne_iff_ne, bne_eq_false_iff_eq, ne_eq, Bool.not_eq_true', Bool.not_eq_false', Bool.not_eq_true, Bool.not_eq_false] at h1
  · refine EvC.skip ?_
    try change EvC _ _ _ _ _ _
    obtain ⟨q, hq⟩ : ∃ q, l[i]? = some q := ⟨l[i]'(by omega), List.getElem?_eq_getElem _⟩
    have hr := range_get hq
    try change EvC _ _ _ _ _ _
    repeat refine EvC.seq ?_
    refine EvC.block ?_
    try change EvC _ _ _ _ _ _
    repeat refine EvC.seq ?_
    refine EvC.cutT 27 (.bool (decide (r ≥ q.1) && decide (r ≤ q.2))) [] ?_ (fun ff tmp htmp => ?_)
    · refine EvO.mv (.inl rfl) rfl (ev rfl) (put_T rfl _) ?_
      refine EvO.mv (.inl rfl) rfl (ev rfl) (put_T rfl _) ?_
      refine EvO.mv (.inl rfl) rfl (ev rfl) (put_T rfl _) ?_
      refine EvO.ridx rfl (ev rfl) (ev rfl) (Arg.rows (by assumption) hH) rfl rfl (by assumption) (fun _ => (put_T rfl _)) (fun p15 hp15 => ?_)
      refine EvO.rfieldN (fo := 0) (m := 0) rfl (ev rfl) (by assumption) rfl rfl (fun _ => (put_T rfl _)) (fun p16 hp16 => ?_)
      refine EvO.rload rfl (ev rfl) (by assumption) rfl (put_T rfl _) ?_
      refine EvO.go rfl rfl rfl (put_T rfl _) ?_
      refine EvO.mv (.inl rfl) rfl (ev rfl) (put_T rfl _) ?_
      refine EvO.two 19 rfl (fun hg7 => ?_) (fun hg7 => ?_)
      · refine EvO.mv (.inl rfl) (wantD_is rfl rfl rfl hg7) (ev rfl) (put_T rfl _) ?_
        refine EvO.mv (.inl rfl) (wantD_is rfl rfl rfl hg7) (ev rfl) (put_T rfl _) ?_
        refine EvO.mv (.inl rfl) (wantD_is rfl rfl rfl hg7) (ev rfl) (put_T rfl _) ?_
        refine EvO.ridx (wantD_is rfl rfl rfl hg7) (ev rfl) (ev rfl) (Arg.rows (by assumption) hH) rfl rfl (by assumption) (fun _ => (put_T rfl _)) (fun p23 hp23 => ?_)
        refine EvO.rfieldN (fo := 1) (m := 0) (wantD_is rfl rfl rfl hg7) (ev rfl) (by assumption) rfl rfl (fun _ => (put_T rfl _)) (fun p24 hp24 => ?_)
        refine EvO.rload (wantD_is rfl rfl rfl hg7) (ev rfl) (by assumption) rfl (put_T rfl _) ?_
        refine EvO.go (wantD_is rfl rfl rfl hg7) rfl rfl (put_T rfl _) ?_
        refine EvO.pickT rfl rfl hg7 (put_T rfl _) ?_
        refine EvO.nil (leafT ?_ ?_)
        · try dsimp only [setW, List.foldl_cons, List.foldl_nil, nth, List.set_cons_zero, List.set_cons_succ]
          all_goals (first | rfl | simp)
        · try dsimp only [Fr.putO, Fr.put, Fr.clean, Fr.ev, Fr.get, nth, Go.V.look, List.set_cons_succ, List.set_cons_zero, ofVal_int, ofVal_bool, ofVal_str, ofVal_nul, ofVal_pnil, ofVal_nilfn, ofVal_nilif, List.length, List.cons_append, List.nil_append, List.append_nil, Nat.reduceSub, Nat.reduceAdd, List.map, List.map_cons, List.map_nil]
          all_goals (simp [hg7]; done)
      · refine EvO.skip (wantD_not rfl rfl rfl hg7) (put_T rfl _) ?_
        refine EvO.skip (wantD_not rfl rfl rfl hg7) (put_T rfl _) ?_
        refine EvO.skip (wantD_not rfl rfl rfl hg7) (put_T rfl _) ?_
        refine EvO.skip (wantD_not rfl rfl rfl hg7) (put_T rfl _) ?_
        refine EvO.skip (wantD_not rfl rfl rfl hg7) (put_T rfl _) ?_
        refine EvO.skip (wantD_not rfl rfl rfl hg7) (put_T rfl _) ?_
        refine EvO.skip (wantD_not rfl rfl rfl hg7) (put_T rfl _) ?_
        refine EvO.pickF rfl rfl hg7 (put_T rfl _) ?_
        refine EvO.nil (leafT ?_ ?_)
        · try dsimp only [setW, List.foldl_cons, List.foldl_nil, nth, List.set_cons_zero, List.set_cons_succ]
          all_goals (first | rfl | simp)
        · try dsimp only [Fr.putO, Fr.put, Fr.clean, Fr.ev, Fr.get, nth, Go.V.look, List.set_cons_succ, List.set_cons_zero, ofVal_int, ofVal_bool, ofVal_str, ofVal_nul, ofVal_pnil, ofVal_nilfn, ofVal_nilif, List.length, List.cons_append, List.nil_append, List.append_nil, Nat.reduceSub, Nat.reduceAdd, List.map, List.map_cons, List.map_nil]
          all_goals (simp [hg7]; done)
    try dsimp only [setW, List.foldl_cons, List.foldl_nil, nth, List.set_cons_zero, List.set_cons_succ]
    try dsimp only [Fr.putO, Fr.put, Fr.clean, Fr.ev, Fr.get, nth, Go.V.look, List.set_cons_succ, List.set_cons_zero, ofVal_int, ofVal_bool, ofVal_str, ofVal_nul, ofVal_pnil, ofVal_nilfn, ofVal_nilif, List.length, List.cons_append, List.nil_append, List.append_nil, Nat.reduceSub, Nat.reduceAdd, List.map, List.map_cons, List.map_nil]
    try change EvC _ _ _ _ _ _
    have ht : hasS (l.take (i + 1)) r = (decide (r ≥ q.1) && decide (r ≤ q.2)) := by
      rw [List.take_add_one, hq, Option.toList_some, hasS_snoc, hn]; simp
    try change EvC _ _ _ _ _ _
    repeat refine EvC.seq ?_
    refine EvC.cond (by assumption) (fun h2 => ?_) (fun h2 => ?_) <;> try simp only [decide_eq_true_eq, decide_eq_false_iff_not, beq_iff_eq, beq_eq_false_iff_ne, bne_iff_ne, bne_eq_false_iff_eq, ne_eq, Bool.not_eq_true', Bool.not_eq_false', Bool.not_eq_true, Bool.not_eq_false] at h2
    · try change EvC _ _ _ _ _ _
      repeat refine EvC.seq ?_
      try generalize hK : SeqQ _ _ _ _ = K
      refine EvC.reg ?_
      refine EvO.mv (.inr rfl) rfl (ev rfl) (by dsimp only [Fr.put, List.set_cons_succ, List.set_cons_zero] <;> rfl) ?_
      refine EvO.nil ?_
      try subst hK
      try change EvC _ _ _ _ _ _
      rw [hasS_pre (i := i + 1) (by rw [ht]; simp [h2])]
      refine EvC.ret ⟨fun i h => (by cases h), _, rfl, leave_ro (by simp) hSb hH (rfl)⟩
    · refine EvC.skip ?_
      try change EvC _ _ _ _ _ _
      try change EvC _ _ _ _ _ _
      repeat refine EvC.seq ?_
      try generalize hK : SeqQ _ _ _ _ = K
      refine EvC.reg ?_
      refine EvO.mv (.inl rfl) rfl (ev rfl) (put_T rfl _) ?_
      refine EvO.addS64 rfl (ev rfl) (ev rfl) (by omega) (by omega) (put_T rfl _) ?_
      refine EvO.mv (.inr rfl) rfl (ev rfl) (by dsimp only [Fr.put, List.set_cons_succ, List.set_cons_zero] <;> rfl) ?_
      refine EvO.nil ?_
      try subst hK
      try change EvC _ _ _ _ _ _
      exact ⟨mm - 1, by omega, ⟨i + 1, _, _, rfl, hH, by omega, by rw [ht]; simp [h2]⟩⟩
  · try change EvC _ _ _ _ _ _
    refine EvC.exit ?_
    try change EvC _ _ _ _ _ _
    try change EvC _ _ _ _ _ _
    repeat refine EvC.seq ?_
    try generalize hK : SeqQ _ _ _ _ = K
    refine EvC.reg ?_
    refine EvO.mv (.inr rfl) rfl (ev rfl) (by dsimp only [Fr.put, List.set_cons_succ, List.set_cons_zero] <;> rfl) ?_
    refine EvO.nil ?_
    try subst hK
    try change EvC _ _ _ _ _ _
    have : hasS l r = false := by rw [← hn, List.take_of_length_le (by omega)]
    rw [this]
    refine EvC.ret ⟨fun i h => (by cases h), _, rfl, leave_ro (by simp) hSb hH (rfl)⟩

theorem has_ev {s0 : St} {x : D} {l : List Rg} {r : Int} (hx : V.Rows s0 2 x (l.map rangeC)) (hl : l.length ≤ 1073741824) : Ev pv 87 [x, .int .i32 r] s0 (.bool (hasS l r)) s0 := by
  refine Ev.mk1 rfl fi87 rfl rfl rfl ?_
  dsimp only [List.cons_append, List.nil_append, List.length, Nat.reduceSub, Nat.reduceAdd, List.replicate_succ, List.replicate_zero]
  have hSb : (enterSt .ro s0).bs = s0.bs := rfl
  have hF : (enterSt .ro s0).flr ≤ s0.bs.length := Nat.le_refl _
  have hH : Has s0.bs.length (enterSt .ro s0) (enterSt .ro s0) [] := Has.start (Nat.le_refl _) (Nat.le_refl _)
  generalize enterSt .ro s0 = S at *
  have hx := Arg.of hx hSb
  try change EvC _ _ _ _ _ _
  repeat refine EvC.seq ?_
  try generalize hK : SeqQ _ _ _ _ = K
  refine EvC.reg ?_
  refine EvO.mv (.inr rfl) rfl (ev rfl) (by dsimp only [Fr.put, List.set_cons_succ, List.set_cons_zero] <;> rfl) ?_
  refine EvO.nil ?_
  try subst hK
  try change EvC _ _ _ _ _ _
  try change EvC _ _ _ _ _ _
  repeat refine EvC.seq ?_
  try generalize hK : SeqQ _ _ _ _ = K
  refine EvC.reg ?_
  refine EvO.mv (.inl rfl) rfl (ev rfl) (by dsimp only [Fr.put, List.set_cons_succ, List.set_cons_zero] <;> rfl) ?_
  refine EvO.rlen rfl (ev rfl) (Arg.rows (by assumption) hH) rfl (by dsimp only [Fr.put, List.set_cons_succ, List.set_cons_zero] <;> rfl) ?_
  try simp only [List.length_map, List.length_append, List.length_cons, List.length_nil, List.length_set, List.length_replicate, List.length_reverse]
  refine EvO.mv (.inl rfl) rfl (ev rfl) (by dsimp only [Fr.put, List.set_cons_succ, List.set_cons_zero] <;> rfl) ?_
  refine EvO.nil ?_
  try subst hK
  try change EvC _ _ _ _ _ _
  try change EvC _ _ _ _ _ _
  repeat refine EvC.seq ?_
  refine EvC.block ?_
  refine EvC.loop (fun mm fr st => ∃ (i : Nat) (d2 d3 d5 d6 : D), fr.clean = ⟨10, [x, .int .i32 r, d2, d3, .bool false, d5, d6, x, .int .i64 (l.length : Nat), .int .i64 (i : Nat)], []⟩ ∧ Has s0.bs.length S st [] ∧ (i + mm = l.length) ∧ (hasS (l.take i) r = false)) (l.length) ?_ ?_
  · exact ⟨0, _, _, _, _, rfl, hH, by omega, rfl⟩
  rintro mm fr st ⟨i, d2, d3, d5, d6, hfr, hH, hi, hn⟩
  rw [hfr]
  try change EvC _ _ _ _ _ _
  try change EvC _ _ _ _ _ _
  repeat refine EvC.seq ?_
  try generalize hK : SeqQ _ _ _ _ = K
  refine EvC.reg ?_
  refine EvO.go rfl rfl rfl (put_T rfl _) ?_
  refine EvO.nil ?_
  try subst hK
  try change EvC _ _ _ _ _ _
  try change EvC _ _ _ _ _ _
  repeat refine EvC.seq ?_
  refine EvC.cond (by rfl) (fun h1 => ?_) (fun h1 => ?_) <;> try simp only [decide_eq_true_eq, decide_eq_false_iff_not, beq_iff_eq, beq_eq_false_iff_ne, bne_iff_ne, bne_eq_false_iff_eq, ne_eq, Bool.not_eq_true', Bool.not_eq_false', Bool.not_eq_true, Bool.not_eq_false] at h1
  · refine EvC.skip ?_
    try change EvC _ _ _ _ _ _
    obtain ⟨q, hq⟩ : ∃ q, l[i]? = some q := ⟨l[i]'(by omega), List.getElem?_eq_getElem _⟩
    have hr := range_get hq
    try change EvC _ _ _ _ _ _
    repeat refine EvC.seq ?_
    refine EvC.block ?_
    try change EvC _ _ _ _ _ _
    repeat refine EvC.seq ?_
    try generalize hK : SeqQ _ _ _ _ = K
    refine EvC.reg ?_
    refine EvO.ridx rfl (ev rfl) (ev rfl) (Arg.rows (by assumption) hH) rfl rfl (by assumption) (fun _ => (put_T rfl _)) (fun p11 hp11 => ?_)
    refine EvO.rloadS rfl (ev rfl) (by assumption) rfl (put_T rfl _) ?_
    refine EvO.halloc hH rfl rfl (fun _ => by dsimp only [Fr.put, List.set_cons_succ, List.set_cons_zero] <;> rfl) (fun k6 st hk6 hH => ?_)
    try dsimp only [List.set_cons_zero, List.set_cons_succ, List.cons_append, List.nil_append, setMany, List.map_cons, List.map_nil, D.cells, Nat.reduceAdd, List.nil_append, rangeC] at hH
    refine EvO.hstoreA hH rfl (ev rfl) (ev rfl) (by rfl) (by exact rfl) (by exact at0) (by exact rfl) (by exact .inl hF) (fun st hH => ?_)
    try dsimp only [List.set_cons_zero, List.set_cons_succ, List.cons_append, List.nil_append, setMany, List.map_cons, List.map_nil, D.cells, Nat.reduceAdd, List.nil_append, rangeC] at hH
    refine EvO.nil ?_
    try subst hK
    try change EvC _ _ _ _ _ _
    try change EvC _ _ _ _ _ _
    repeat refine EvC.seq ?_
    refine EvC.cutT 22 (.bool (decide (r ≥ q.1) && decide (r ≤ q.2))) [] ?_ (fun ff tmp htmp => ?_)
    · refine EvO.mv (.inl rfl) rfl (ev rfl) (put_T rfl _) ?_
      refine EvO.pfield (fo := 0) (m := 0) (o := 0) rfl (ev rfl) rfl rfl rfl (put_T rfl _) ?_
      refine EvO.hload hH rfl (ev rfl) (by exact at0) rfl (put_T rfl _) ?_
      refine EvO.go rfl rfl rfl (put_T rfl _) ?_
      refine EvO.mv (.inl rfl) rfl (ev rfl) (put_T rfl _) ?_
      refine EvO.two 17 rfl (fun hg4 => ?_) (fun hg4 => ?_)
      · refine EvO.mv (.inl rfl) (wantD_is rfl rfl rfl hg4) (ev rfl) (put_T rfl _) ?_
        refine EvO.pfield (fo := 1) (m := 0) (o := 1) (wantD_is rfl rfl rfl hg4) (ev rfl) rfl rfl rfl (put_T rfl _) ?_
        refine EvO.hload hH (wantD_is rfl rfl rfl hg4) (ev rfl) (by exact at0) rfl (put_T rfl _) ?_
        refine EvO.go (wantD_is rfl rfl rfl hg4) rfl rfl (put_T rfl _) ?_
        refine EvO.pickT rfl rfl hg4 (put_T rfl _) ?_
        refine EvO.nil (leafT ?_ ?_)
        · try dsimp only [setW, List.foldl_cons, List.foldl_nil, nth, List.set_cons_zero, List.set_cons_succ]
          all_goals (first | rfl | simp)
        · try dsimp only [Fr.putO, Fr.put, Fr.clean, Fr.ev, Fr.get, nth, Go.V.look, List.set_cons_succ, List.set_cons_zero, ofVal_int, ofVal_bool, ofVal_str, ofVal_nul, ofVal_pnil, ofVal_nilfn, ofVal_nilif, List.length, List.cons_append, List.nil_append, List.append_nil, Nat.reduceSub, Nat.reduceAdd, List.map, List.map_cons, List.map_nil]
          all_goals (simp [hg4]; done)
      · refine EvO.skip (wantD_not rfl rfl rfl hg4) (put_T rfl _) ?_
        refine EvO.skip (wantD_not rfl rfl rfl hg4) (put_T rfl _) ?_
        refine EvO.skip (wantD_not rfl rfl rfl hg4) (put_T rfl _) ?_
        refine EvO.skip (wantD_not rfl rfl rfl hg4) (put_T rfl _) ?_
        refine EvO.pickF rfl rfl hg4 (put_T rfl _) ?_
        refine EvO.nil (leafT ?_ ?_)
        · try dsimp only [setW, List.foldl_cons, List.foldl_nil, nth, List.set_cons_zero, List.set_cons_succ]
          all_goals (first | rfl | simp)
        · try dsimp only [Fr.putO, Fr.put, Fr.clean, Fr.ev, Fr.get, nth, Go.V.look, List.set_cons_succ, List.set_cons_zero, ofVal_int, ofVal_bool, ofVal_str, ofVal_nul, ofVal_pnil, ofVal_nilfn, ofVal_nilif, List.length, List.cons_append, List.nil_append, List.append_nil, Nat.reduceSub, Nat.reduceAdd, List.map, List.map_cons, List.map_nil]
          all_goals (simp [hg4]; done)
    try dsimp only [setW, List.foldl_cons, List.foldl_nil, nth, List.set_cons_zero, List.set_cons_succ]
    try dsimp only [Fr.putO, Fr.put, Fr.clean, Fr.ev, Fr.get, nth, Go.V.look, List.set_cons_succ, List.set_cons_zero, ofVal_int, ofVal_bool, ofVal_str, ofVal_nul, ofVal_pnil, ofVal_nilfn, ofVal_nilif, List.length, List.cons_append, List.nil_append, List.append_nil, Nat.reduceSub, Nat.reduceAdd, List.map, List.map_cons, List.map_nil]
    try change EvC _ _ _ _ _ _
    have ht : hasS (l.take (i + 1)) r = (decide (r ≥ q.1) && decide (r ≤ q.2)) := by
      rw [List.take_add_one, hq, Option.toList_some, hasS_snoc, hn]; simp
    try change EvC _ _ _ _ _ _
    repeat refine EvC.seq ?_
    refine EvC.cond (by assumption) (fun h2 => ?_) (fun h2 => ?_) <;> try simp only [decide_eq_true_eq, decide_eq_false_iff_not, beq_iff_eq, beq_eq_false_iff_ne, bne_iff_ne, bne_eq_false_iff_eq, ne_eq, Bool.not_eq_true', Bool.not_eq_false', Bool.not_eq_true, Bool.not_eq_false] at h2
    · try change EvC _ _ _ _ _ _
      repeat refine EvC.seq ?_
      try generalize hK : SeqQ _ _ _ _ = K
      refine EvC.reg ?_
      refine EvO.mv (.inr rfl) rfl (ev rfl) (by dsimp only [Fr.put, List.set_cons_succ, List.set_cons_zero] <;> rfl) ?_
      refine EvO.nil ?_
      try subst hK
      try change EvC _ _ _ _ _ _
      rw [hasS_pre (i := i + 1) (by rw [ht]; simp [h2])]
      refine EvC.ret ⟨fun i h => (by cases h), _, rfl, leave_ro (by simp) hSb hH (rfl)⟩
    · refine EvC.skip ?_
      try change EvC _ _ _ _ _ _
      try change EvC _ _ _ _ _ _
      repeat refine EvC.seq ?_
      try generalize hK : SeqQ _ _ _ _ = K
      refine EvC.reg ?_
      refine EvO.addS64 rfl (ev rfl) (ev rfl) (by omega) (by omega) (put_T rfl _) ?_
      refine EvO.mv (.inl rfl) rfl (ev rfl) (by dsimp only [Fr.put, List.set_cons_succ, List.set_cons_zero] <;> rfl) ?_
      refine EvO.nil ?_
      try subst hK
      try change EvC _ _ _ _ _ _
      exact ⟨mm - 1, by omega, ⟨i + 1, _, _, _, _, rfl, (hH.drop 1), by omega, by rw [ht]; simp [h2]⟩⟩
  · try change EvC _ _ _ _ _ _
    refine EvC.exit ?_
    try change EvC _ _ _ _ _ _
    try change EvC _ _ _ _ _ _
    repeat refine EvC.seq ?_
    try generalize hK : SeqQ _ _ _ _ = K
    refine EvC.reg ?_
    refine EvO.mv (.inr rfl) rfl (ev rfl) (by dsimp only [Fr.put, List.set_cons_succ, List.set_cons_zero] <;> rfl) ?_
    refine EvO.nil ?_
    try subst hK
    try change EvC _ _ _ _ _ _
    have : hasS l r = false := by rw [← hn, List.take_of_length_le (by omega)]
    rw [this]
    refine EvC.ret ⟨fun i h => (by cases h), _, rfl, leave_ro (by simp) hSb hH (rfl)⟩
end Go.Proofs.Ytbdilgkfnacahaa
