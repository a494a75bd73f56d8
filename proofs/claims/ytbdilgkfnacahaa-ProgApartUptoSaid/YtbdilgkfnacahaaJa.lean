/-
 Sets of runes: what they are in cells; Has.
-/
import Derived.Test.YtbdilgkfnacahaaPx
import Derived.Test.YtbdilgkfnacahaaM2
import Derived.Test.YtbdilgkfnacahaaCb
import Derived.KernelRfl
namespace Go.Proofs.Ytbdilgkfnacahaa
open Go.V Go
set_option maxRecDepth 100000
set_option maxHeartbeats 4000000
set_option linter.unusedSimpArgs false
set_option linter.unusedVariables false

/-- what a frame holds at a slot -/
def ixF_Ja (fr : Go.V.Fr) (k : Nat) : Go.V.D := Go.V.nth .junk fr.loc k

def rangeC (x : Rg) : List D := [.int .i32 x.1, .int .i32 x.2]
def rangesV (l : List Rg) : D := .sl (l.map fun x => .agg (rangeC x))
theorem rangesV_el (l : List Rg) : D.sl ((l.map rangeC).map (elD 2)) = rangesV l := by
 unfold rangesV; rw [List.map_map]; rfl
theorem range_plain (l : List Rg) : ∀ e ∈ l.map rangeC, ∀ d ∈ e, plainC d = true := by
 intro e he d hd
 obtain ⟨x, _, rfl⟩ := List.mem_map.1 he
 simp only [rangeC, List.mem_cons, List.not_mem_nil, or_false] at hd
 rcases hd with rfl | rfl <;> rfl
theorem range_refs (l : List Rg) : refs (l.map rangeC).flatten = 0 := by
 induction l with
 | nil => rfl
 | cons x l ih => simp only [List.map_cons, List.flatten_cons, rangeC, List.cons_append, List.nil_append, refs, D.ref, ih]; rfl
theorem range_len (l : List Rg) : ∀ e ∈ l.map rangeC, e.length = 2 := by
 intro e he; obtain ⟨x, _, rfl⟩ := List.mem_map.1 he; rfl
theorem rangesV_rows (st : St) (l : List Rg) : V.Rows st 2 (rangesV l) (l.map rangeC) := by
 rw [← rangesV_el]
 exact Rows.ofFrozen (range_len l) (range_plain l)
theorem range_get {l : List Rg} {i : Nat} {q : Rg} (h : l[i]? = some q) : (l.map rangeC)[i]? = some (rangeC q) := by rw [List.getElem?_map, h]; rfl

theorem hasS_snoc (l : List Rg) (q : Rg) (r : Int) : hasS (l ++ [q]) r = (hasS l r || (decide (q.1 ≤ r) && decide (r ≤ q.2))) := by
 induction l with
 | nil => simp [hasS]
 | cons x l ih => simp only [List.cons_append, hasS, ih, Bool.or_assoc]
theorem hasS_pre {l : List Rg} {i : Nat} {r : Int} (h : hasS (l.take i) r = true) : hasS l r = true := by
 rw [hasS_iff] at h ⊢
 obtain ⟨x, h1, h2⟩ := h
 exact ⟨x, List.mem_of_mem_take h1, h2⟩

theorem refHas_ev {s0 : St} {x : D} {l : List Rg} {r : Int} (hx : V.Rows s0 2 x (l.map rangeC)) (hl : l.length ≤ 1073741824) : Ev pv 60 [x, .int .i32 r] s0 (.bool (hasS l r)) s0 := by
 refine Ev.mk1 rfl fi60 rfl rfl rfl ?_
 dsimp only [List.cons_append, List.nil_append, List.length, Nat.reduceSub, Nat.reduceAdd, List.replicate_succ, List.replicate_zero]
 have hSb : (enterSt .ro s0).bs = s0.bs := rfl
 have hF : (enterSt .ro s0).flr ≤ s0.bs.length := Nat.le_refl _
 have hH : Has s0.bs.length (enterSt .ro s0) (enterSt .ro s0) [] := Has.start (Nat.le_refl _) (Nat.le_refl _)
 generalize enterSt .ro s0 = S at *
 have hx := Arg.of hx hSb
 try refine qy ?_
 repeat refine qq ?_
 try generalize hK : SeqQ _ _ _ _ = K
 refine EvC.reg ?_
 refine qm ?_
 refine EvO.nil ?_
 try subst hK
 try refine qy ?_
 repeat refine qq ?_
 try generalize hK : SeqQ _ _ _ _ = K
 refine EvC.reg ?_
 refine qm ?_
 refine EvO.nil ?_
 try subst hK
 try refine qy ?_
 repeat refine qq ?_
 refine EvC.block ?_
 refine EvC.loop (fun mm fr st => ∃ (i : Nat), fr.clean = ⟨6, [x, .int .i32 r, ixF_Ja fr 2, ixF_Ja fr 3, .bool false, .int .i64 (i : Nat)], []⟩ ∧ Has s0.bs.length S st [] ∧ (i + mm = l.length) ∧ (hasS (l.take i) r = false)) (l.length) ?_ ?_
 ·exact ⟨0, rfl, hH, by omega, rfl⟩
 rintro mm fr st ⟨i, hfr, hH, hi, hn⟩
 rw [hfr]
 clear hfr
 try generalize ixF_Ja fr = ee
 clear fr
 try refine qy ?_
 repeat refine qq ?_
 try generalize hK : SeqQ _ _ _ _ = K
 refine EvC.reg ?_
 refine qm ?_
 refine qm ?_
 refine qn ?_
 try simp only [List.length_map, List.length_append, List.length_cons, List.length_nil, List.length_set, List.length_replicate, List.length_reverse]
 refine qg ?_
 refine EvO.nil ?_
 try subst hK
 try refine qy ?_
 repeat refine qq ?_
 refine qc (fun h1 => ?_) (fun h1 => ?_) <;> try simp only [cs] at h1
 ·refine EvC.skip ?_
  try refine qy ?_
  obtain ⟨q, hq⟩ : ∃ q, l[i]? = some q := ⟨l[i]'(by omega), List.getElem?_eq_getElem _⟩
  have hr := range_get hq
  try refine qy ?_
  repeat refine qq ?_
  refine EvC.block ?_
  try refine qy ?_
  repeat refine qq ?_
  refine EvC.cutT 27 (.bool (decide (r ≥ q.1) && decide (r ≤ q.2))) [] ?_ (fun ff tmp htmp => ?_)
  ·refine qm ?_
   refine qm ?_
   refine qm ?_
   refine qr fun p15 hp15 => ?_
   refine qf (fo := 0) fun p16 hp16 => ?_
   refine qR ?_
   refine qg ?_
   refine qm ?_
   refine EvO.two 19 rfl (fun hg7 => ?_) (fun hg7 => ?_)
   ·refine qm ?_ (hg := wi hg7)
    refine qm ?_ (hg := wi hg7)
    refine qm ?_ (hg := wi hg7)
    refine qr (fun p23 hp23 => ?_) (hg := wi hg7)
    refine qf (fo := 1) (fun p24 hp24 => ?_) (hg := wi hg7)
    refine qR ?_ (hg := wi hg7)
    refine qg ?_ (hg := wi hg7)
    refine qt hg7 ?_
    refine EvO.nil (leafT ?_ ?_)
    ·try dsimp only [setW, List.foldl, nth, u2, u1]
     all_goals (first | rfl | simp)
    ·try dsimp only [Fr.putO, Fr.put, Fr.clean, Fr.ev, Fr.get, nth, Go.V.look, u1, u2, v1, v2, v3, v4, v5, v6, v7, List.length, u3, u4, Nat.reduceSub, Nat.reduceAdd, List.map]
     all_goals (simp [hg7]; done)
   ·refine qs ?_ (hg := wn hg7)
    refine qs ?_ (hg := wn hg7)
    refine qs ?_ (hg := wn hg7)
    refine qs ?_ (hg := wn hg7)
    refine qs ?_ (hg := wn hg7)
    refine qs ?_ (hg := wn hg7)
    refine qs ?_ (hg := wn hg7)
    refine qu hg7 ?_
    refine EvO.nil (leafT ?_ ?_)
    ·try dsimp only [setW, List.foldl, nth, u2, u1]
     all_goals (first | rfl | simp)
    ·try dsimp only [Fr.putO, Fr.put, Fr.clean, Fr.ev, Fr.get, nth, Go.V.look, u1, u2, v1, v2, v3, v4, v5, v6, v7, List.length, u3, u4, Nat.reduceSub, Nat.reduceAdd, List.map]
     all_goals (simp [hg7]; done)
  try dsimp only [setW, List.foldl, nth, u2, u1]
  try dsimp only [Fr.putO, Fr.put, Fr.clean, Fr.ev, Fr.get, nth, Go.V.look, u1, u2, v1, v2, v3, v4, v5, v6, v7, List.length, u3, u4, Nat.reduceSub, Nat.reduceAdd, List.map]
  try refine qy ?_
  have ht : hasS (l.take (i + 1)) r = (decide (r ≥ q.1) && decide (r ≤ q.2)) := by
   rw [List.take_add_one, hq, Option.toList_some, hasS_snoc, hn]; simp
  try refine qy ?_
  repeat refine qq ?_
  refine qc (fun h2 => ?_) (fun h2 => ?_) <;> try simp only [cs] at h2
  ·try refine qy ?_
   repeat refine qq ?_
   try generalize hK : SeqQ _ _ _ _ = K
   refine EvC.reg ?_
   refine qm ?_
   refine EvO.nil ?_
   try subst hK
   try refine qy ?_
   rw [hasS_pre (i := i + 1) (by rw [ht]; simp [h2])]
   refine EvC.ret ⟨fun i h => (by cases h), _, rfl, leave_ro (by simp) hSb hH (rfl)⟩
  ·refine EvC.skip ?_
   try refine qy ?_
   repeat refine qq ?_
   try generalize hK : SeqQ _ _ _ _ = K
   refine EvC.reg ?_
   refine qm ?_
   refine qA ?_
   refine qm ?_
   refine EvO.nil ?_
   try subst hK
   try refine qy ?_
   exact ⟨mm - 1, by omega, ⟨i + 1, rfl, hH, by omega, by rw [ht]; simp [h2]⟩⟩
 ·try refine qy ?_
  refine EvC.exit ?_
  try refine qy ?_
  repeat refine qq ?_
  try generalize hK : SeqQ _ _ _ _ = K
  refine EvC.reg ?_
  refine qm ?_
  refine EvO.nil ?_
  try subst hK
  try refine qy ?_
  have : hasS l r = false := by rw [← hn, List.take_of_length_le (by omega)]
  rw [this]
  refine EvC.ret ⟨fun i h => (by cases h), _, rfl, leave_ro (by simp) hSb hH (rfl)⟩

theorem has_ev {s0 : St} {x : D} {l : List Rg} {r : Int} (hx : V.Rows s0 2 x (l.map rangeC)) (hl : l.length ≤ 1073741824) : Ev pv 87 [x, .int .i32 r] s0 (.bool (hasS l r)) s0 := by
 refine Ev.mk1 rfl fi87 rfl rfl rfl ?_
 dsimp only [List.cons_append, List.nil_append, List.length, Nat.reduceSub, Nat.reduceAdd, List.replicate_succ, List.replicate_zero]
 have hSb : (enterSt .ro s0).bs = s0.bs := rfl
 have hF : (enterSt .ro s0).flr ≤ s0.bs.length := Nat.le_refl _
 have hH : Has s0.bs.length (enterSt .ro s0) (enterSt .ro s0) [] := Has.start (Nat.le_refl _) (Nat.le_refl _)
 generalize enterSt .ro s0 = S at *
 have hx := Arg.of hx hSb
 try refine qy ?_
 repeat refine qq ?_
 try generalize hK : SeqQ _ _ _ _ = K
 refine EvC.reg ?_
 refine qm ?_
 refine EvO.nil ?_
 try subst hK
 try refine qy ?_
 repeat refine qq ?_
 try generalize hK : SeqQ _ _ _ _ = K
 refine EvC.reg ?_
 refine qm ?_
 refine qn ?_
 try simp only [List.length_map, List.length_append, List.length_cons, List.length_nil, List.length_set, List.length_replicate, List.length_reverse]
 refine qm ?_
 refine EvO.nil ?_
 try subst hK
 try refine qy ?_
 repeat refine qq ?_
 refine EvC.block ?_
 refine EvC.loop (fun mm fr st => ∃ (i : Nat), fr.clean = ⟨10, [x, .int .i32 r, ixF_Ja fr 2, ixF_Ja fr 3, .bool false, ixF_Ja fr 5, ixF_Ja fr 6, x, .int .i64 (l.length : Nat), .int .i64 (i : Nat)], []⟩ ∧ Has s0.bs.length S st [] ∧ (i + mm = l.length) ∧ (hasS (l.take i) r = false)) (l.length) ?_ ?_
 ·exact ⟨0, rfl, hH, by omega, rfl⟩
 rintro mm fr st ⟨i, hfr, hH, hi, hn⟩
 rw [hfr]
 clear hfr
 try generalize ixF_Ja fr = ee
 clear fr
 try refine qy ?_
 repeat refine qq ?_
 try generalize hK : SeqQ _ _ _ _ = K
 refine EvC.reg ?_
 refine qg ?_
 refine EvO.nil ?_
 try subst hK
 try refine qy ?_
 repeat refine qq ?_
 refine qc (fun h1 => ?_) (fun h1 => ?_) <;> try simp only [cs] at h1
 ·refine EvC.skip ?_
  try refine qy ?_
  obtain ⟨q, hq⟩ : ∃ q, l[i]? = some q := ⟨l[i]'(by omega), List.getElem?_eq_getElem _⟩
  have hr := range_get hq
  try refine qy ?_
  repeat refine qq ?_
  refine EvC.block ?_
  try refine qy ?_
  repeat refine qq ?_
  try generalize hK : SeqQ _ _ _ _ = K
  refine EvC.reg ?_
  refine qr fun p11 hp11 => ?_
  refine EvO.rloadS rfl (ev rfl) (by assumption) rfl (put_T rfl _) ?_
  refine qa hH fun k6 st hk6 hH => ?_
  try dsimp only [u2, u1, u3, u4, setMany, u5, u6, D.cells, Nat.reduceAdd, rangeC] at hH
  refine qS hH at0 fun st hH => ?_
  try dsimp only [u2, u1, u3, u4, setMany, u5, u6, D.cells, Nat.reduceAdd, rangeC] at hH
  refine EvO.nil ?_
  try subst hK
  try refine qy ?_
  repeat refine qq ?_
  refine EvC.cutT 22 (.bool (decide (r ≥ q.1) && decide (r ≤ q.2))) [] ?_ (fun ff tmp htmp => ?_)
  ·refine qm ?_
   refine qp (o := 0) ?_
   refine ql hH at0 ?_
   refine qg ?_
   refine qm ?_
   refine EvO.two 17 rfl (fun hg4 => ?_) (fun hg4 => ?_)
   ·refine qm ?_ (hg := wi hg4)
    refine qp (o := 1) ?_ (hg := wi hg4)
    refine ql hH at0 ?_ (hg := wi hg4)
    refine qg ?_ (hg := wi hg4)
    refine qt hg4 ?_
    refine EvO.nil (leafT ?_ ?_)
    ·try dsimp only [setW, List.foldl, nth, u2, u1]
     all_goals (first | rfl | simp)
    ·try dsimp only [Fr.putO, Fr.put, Fr.clean, Fr.ev, Fr.get, nth, Go.V.look, u1, u2, v1, v2, v3, v4, v5, v6, v7, List.length, u3, u4, Nat.reduceSub, Nat.reduceAdd, List.map]
     all_goals (simp [hg4]; done)
   ·refine qs ?_ (hg := wn hg4)
    refine qs ?_ (hg := wn hg4)
    refine qs ?_ (hg := wn hg4)
    refine qs ?_ (hg := wn hg4)
    refine qu hg4 ?_
    refine EvO.nil (leafT ?_ ?_)
    ·try dsimp only [setW, List.foldl, nth, u2, u1]
     all_goals (first | rfl | simp)
    ·try dsimp only [Fr.putO, Fr.put, Fr.clean, Fr.ev, Fr.get, nth, Go.V.look, u1, u2, v1, v2, v3, v4, v5, v6, v7, List.length, u3, u4, Nat.reduceSub, Nat.reduceAdd, List.map]
     all_goals (simp [hg4]; done)
  try dsimp only [setW, List.foldl, nth, u2, u1]
  try dsimp only [Fr.putO, Fr.put, Fr.clean, Fr.ev, Fr.get, nth, Go.V.look, u1, u2, v1, v2, v3, v4, v5, v6, v7, List.length, u3, u4, Nat.reduceSub, Nat.reduceAdd, List.map]
  try refine qy ?_
  have ht : hasS (l.take (i + 1)) r = (decide (r ≥ q.1) && decide (r ≤ q.2)) := by
   rw [List.take_add_one, hq, Option.toList_some, hasS_snoc, hn]; simp
  try refine qy ?_
  repeat refine qq ?_
  refine qc (fun h2 => ?_) (fun h2 => ?_) <;> try simp only [cs] at h2
  ·try refine qy ?_
   repeat refine qq ?_
   try generalize hK : SeqQ _ _ _ _ = K
   refine EvC.reg ?_
   refine qm ?_
   refine EvO.nil ?_
   try subst hK
   try refine qy ?_
   rw [hasS_pre (i := i + 1) (by rw [ht]; simp [h2])]
   refine EvC.ret ⟨fun i h => (by cases h), _, rfl, leave_ro (by simp) hSb hH (rfl)⟩
  ·refine EvC.skip ?_
   try refine qy ?_
   repeat refine qq ?_
   try generalize hK : SeqQ _ _ _ _ = K
   refine EvC.reg ?_
   refine qA ?_
   refine qm ?_
   refine EvO.nil ?_
   try subst hK
   try refine qy ?_
   exact ⟨mm - 1, by omega, ⟨i + 1, rfl, (hH.drop 1), by omega, by rw [ht]; simp [h2]⟩⟩
 ·try refine qy ?_
  refine EvC.exit ?_
  try refine qy ?_
  repeat refine qq ?_
  try generalize hK : SeqQ _ _ _ _ = K
  refine EvC.reg ?_
  refine qm ?_
  refine EvO.nil ?_
  try subst hK
  try refine qy ?_
  have : hasS l r = false := by rw [← hn, List.take_of_length_le (by omega)]
  rw [this]
  refine EvC.ret ⟨fun i h => (by cases h), _, rfl, leave_ro (by simp) hSb hH (rfl)⟩
end Go.Proofs.Ytbdilgkfnacahaa
