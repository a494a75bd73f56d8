/-
 Is a list of ranges one that Make answers? Both Makes.
-/
import Derived.Test.YtbdilgkfnacahaaJb
import Derived.Test.YtbdilgkfnacahaaJd
namespace Go.Proofs.Ytbdilgkfnacahaa
open Go.V Go
set_option maxRecDepth 100000
set_option maxHeartbeats 4000000
set_option linter.unusedSimpArgs false
set_option linter.unusedVariables false

/-- what a frame holds at a slot -/
def ixF_Je (fr : Go.V.Fr) (k : Nat) : Go.V.D := Go.V.nth .junk fr.loc k

/-- what Make answers -/
def MakeIs (l a : List Rg) : Prop := canon a ∧ ∀ r, memR a r ↔ isRune r ∧ memR l r
theorem MakeIs.unique {l a b : List Rg} (h : MakeIs l a) (g : MakeIs l b) : a = b := canon_unique h.1 g.1 fun r => (h.2 r).trans (g.2 r).symm
noncomputable def rightS (l : List Rg) : Bool := @decide (MakeIs l l) (Classical.propDecidable _)
theorem rightS_of {l a : List Rg} (h : MakeIs l a) : rightS l = decide (l = a) := by
 unfold rightS
 by_cases hl : l = a
 ·rw [decide_eq_true hl]; exact @decide_eq_true _ (Classical.propDecidable _) (by rw [hl] at h ⊢; exact h)
 ·rw [decide_eq_false hl]; exact @decide_eq_false _ (Classical.propDecidable _) (fun g => hl (g.unique h))

theorem neq_range (p q : Rg) : binD pv .neq 40 (.agg (rangeC p)) (.agg (rangeC q)) = some (.bool (!decide (p = q))) := by
 have h : ∀ a b a' b' : Int, binD pv .neq 40 (.agg [.int .i32 a, .int .i32 b]) (.agg [.int .i32 a', .int .i32 b']) = Option.map (fun b => D.bool !b) (match some (a == a') with | some true => (match some (b == b') with | some true => some true | some false => some false | none => none) | some false => some false | none => none) := fun _ _ _ _ => rfl
 obtain ⟨a, b⟩ := p
 obtain ⟨a', b'⟩ := q
 simp only [rangeC, h]
 by_cases h1 : a = a'
 ·subst h1
  by_cases h2 : b = b'
  ·subst h2; simp
  ·have : (b == b') = false := by simpa using h2
   simp [this, h2]
 ·have : (a == a') = false := by simpa using h1
  simp [this, h1]

theorem take_eq_step {α : Type} {a b : List α} {i : Nat} {x y : α} (ha : a[i]? = some x) (hb : b[i]? = some y) (h : a.take i = b.take i) (hxy : x = y) : a.take (i + 1) = b.take (i + 1) := by
 rw [List.take_add_one, List.take_add_one, h, ha, hb, hxy]

theorem ne_of_get {α : Type} {a b : List α} {i : Nat} {x y : α} (ha : a[i]? = some x) (hb : b[i]? = some y) (hxy : ¬ x = y) : ¬ a = b := by
 intro h; subst h; rw [ha] at hb; exact hxy (Option.some.inj hb)

theorem equal_ev {s0 : St} {x y : D} {l m : List Rg} (hx : V.Rows s0 2 x (l.map rangeC)) (hy : V.Rows s0 2 y (m.map rangeC)) (hl : l.length ≤ 1073741824) (hm : m.length ≤ 1073741824) : Ev pv 82 [x, y] s0 (.bool (decide (l = m))) s0 := by
 refine Ev.mk1 rfl fi82 rfl rfl rfl ?_
 dsimp only [List.cons_append, List.nil_append, List.length, Nat.reduceSub, Nat.reduceAdd, List.replicate_succ, List.replicate_zero]
 have hSb : (enterSt .ro s0).bs = s0.bs := rfl
 have hF : (enterSt .ro s0).flr ≤ s0.bs.length := Nat.le_refl _
 have hH : Has s0.bs.length (enterSt .ro s0) (enterSt .ro s0) [] := Has.start (Nat.le_refl _) (Nat.le_refl _)
 generalize enterSt .ro s0 = S at *
 have hx := Arg.of hx hSb
 have hy := Arg.of hy hSb
 try refine qy ?_
 repeat refine qq ?_
 try generalize hK : SeqQ _ _ _ _ = K
 refine EvC.reg ?_
 refine qm ?_
 refine EvO.nil ?_
 try subst hK
 try refine qy ?_
 repeat refine qq ?_
 try generalize hK : SeqQ _ _ _ _ = K
 refine EvC.reg ?_
 refine qm ?_
 refine qn ?_
 try simp only [List.length_map, List.length_append, List.length_cons, List.length_nil, List.length_set, List.length_replicate, List.length_reverse]
 refine qm ?_
 refine qn ?_
 try simp only [List.length_map, List.length_append, List.length_cons, List.length_nil, List.length_set, List.length_replicate, List.length_reverse]
 refine qg ?_
 refine EvO.nil ?_
 try subst hK
 try refine qy ?_
 by_cases hlen : l.length = m.length
 ·refine EvC.cond (v := false) ?_ (fun h => by cases h) (fun _ => ?_)
  ·dsimp only [Fr.ev, Fr.get, nth, Go.V.look]; rw [hlen]; simp
  refine EvC.skip ?_
  try refine qy ?_
  repeat refine qq ?_
  try generalize hK : SeqQ _ _ _ _ = K
  refine EvC.reg ?_
  refine qm ?_
  refine qn ?_
  try simp only [List.length_map, List.length_append, List.length_cons, List.length_nil, List.length_set, List.length_replicate, List.length_reverse]
  refine qm ?_
  refine EvO.nil ?_
  try subst hK
  try refine qy ?_
  repeat refine qq ?_
  refine EvC.block ?_
  refine EvC.loop (fun mm fr st => ∃ (i : Nat), fr.clean = ⟨14, [x, y, ixF_Je fr 2, ixF_Je fr 3, .bool false, ixF_Je fr 5, ixF_Je fr 6, ixF_Je fr 7, ixF_Je fr 8, ixF_Je fr 9, ixF_Je fr 10, ixF_Je fr 11, .int .i64 (l.length : Nat), .int .i64 (i : Nat)], []⟩ ∧ Has s0.bs.length S st [] ∧ (i + mm = l.length) ∧ (l.take i = m.take i)) (l.length) ?_ ?_
  ·exact ⟨0, rfl, hH, by omega, rfl⟩
  rintro mm fr st ⟨i, hfr, hH, hi, ht⟩
  rw [hfr]
  clear hfr
  try generalize ixF_Je fr = ee
  clear fr
  try refine qy ?_
  repeat refine qq ?_
  try generalize hK : SeqQ _ _ _ _ = K
  refine EvC.reg ?_
  refine qg ?_
  refine EvO.nil ?_
  try subst hK
  try refine qy ?_
  repeat refine qq ?_
  refine qc (fun h1 => ?_) (fun h1 => ?_) <;> try simp only [cs] at h1
  ·refine EvC.skip ?_
   try refine qy ?_
   obtain ⟨p, hp⟩ : ∃ p, l[i]? = some p := ⟨l[i]'(by omega), List.getElem?_eq_getElem _⟩
   obtain ⟨q, hq⟩ : ∃ q, m[i]? = some q := ⟨m[i]'(by omega), List.getElem?_eq_getElem _⟩
   have hr1 := range_get hp
   have hr2 := range_get hq
   try refine qy ?_
   repeat refine qq ?_
   refine EvC.block ?_
   try refine qy ?_
   repeat refine qq ?_
   try generalize hK : SeqQ _ _ _ _ = K
   refine EvC.reg ?_
   refine qm ?_
   refine qm ?_
   refine EvO.nil ?_
   try subst hK
   try refine qy ?_
   repeat refine qq ?_
   try generalize hK : SeqQ _ _ _ _ = K
   refine EvC.reg ?_
   refine qm ?_
   refine qm ?_
   refine qr fun p18 hp18 => ?_
   refine EvO.rloadS rfl (ev rfl) (by assumption) rfl (put_T rfl _) ?_
   refine qm ?_
   refine qm ?_
   refine qr fun p22 hp22 => ?_
   refine EvO.rloadS rfl (ev rfl) (by assumption) rfl (put_T rfl _) ?_
   refine EvO.neB rfl (ev rfl) (ev rfl) (neq_range p q) (put_T rfl _) ?_
   refine EvO.nil ?_
   try subst hK
   try refine qy ?_
   repeat refine qq ?_
   refine qc (fun h2 => ?_) (fun h2 => ?_) <;> try simp only [cs] at h2
   ·try refine qy ?_
    repeat refine qq ?_
    try generalize hK : SeqQ _ _ _ _ = K
    refine EvC.reg ?_
    refine qm ?_
    refine EvO.nil ?_
    try subst hK
    try refine qy ?_
    rw [decide_eq_false (ne_of_get hp hq (by simpa using h2))]
    refine EvC.ret ⟨fun i h => (by cases h), _, rfl, leave_ro (by simp) hSb hH (rfl)⟩
   ·refine EvC.skip ?_
    try refine qy ?_
    repeat refine qq ?_
    try generalize hK : SeqQ _ _ _ _ = K
    refine EvC.reg ?_
    refine qA ?_
    refine qm ?_
    refine EvO.nil ?_
    try subst hK
    try refine qy ?_
    exact ⟨mm - 1, by omega, ⟨i + 1, rfl, hH, by omega, take_eq_step hp hq ht (by simpa using h2)⟩⟩
  ·try refine qy ?_
   refine EvC.exit ?_
   try refine qy ?_
   repeat refine qq ?_
   try generalize hK : SeqQ _ _ _ _ = K
   refine EvC.reg ?_
   refine qm ?_
   refine EvO.nil ?_
   try subst hK
   try refine qy ?_
   rw [decide_eq_true (by rw [List.take_of_length_le (by omega), List.take_of_length_le (by omega)] at ht; exact ht)]
   refine EvC.ret ⟨fun i h => (by cases h), _, rfl, leave_ro (by simp) hSb hH (rfl)⟩
 ·refine EvC.cond (v := true) ?_ (fun _ => ?_) (fun h => by cases h)
  ·dsimp only [Fr.ev, Fr.get, nth, Go.V.look]; simp; omega
  try refine qy ?_
  repeat refine qq ?_
  try generalize hK : SeqQ _ _ _ _ = K
  refine EvC.reg ?_
  refine qm ?_
  refine EvO.nil ?_
  try subst hK
  try refine qy ?_
  rw [decide_eq_false (fun h => hlen (by rw [h]))]
  refine EvC.ret ⟨fun i h => (by cases h), _, rfl, leave_ro (by simp) hSb hH (rfl)⟩

theorem right_ev {s0 : St} {x : D} {l : List Rg} (hx : V.Rows s0 2 x (l.map rangeC)) (hl : l.length ≤ 1048576) : Ev pv 68 [x] s0 (.bool (rightS l)) s0 := by
 refine Ev.mk1 rfl fi68 rfl rfl rfl ?_
 dsimp only [List.cons_append, List.nil_append, List.length, Nat.reduceSub, Nat.reduceAdd, List.replicate_succ, List.replicate_zero]
 have hSb : (enterSt .ro s0).bs = s0.bs := rfl
 have hF : (enterSt .ro s0).flr ≤ s0.bs.length := Nat.le_refl _
 have hH : Has s0.bs.length (enterSt .ro s0) (enterSt .ro s0) [] := Has.start (Nat.le_refl _) (Nat.le_refl _)
 generalize enterSt .ro s0 = S at *
 have hx := Arg.of hx hSb
 try refine qy ?_
 repeat refine qq ?_
 try generalize hK : SeqQ _ _ _ _ = K
 refine EvC.reg ?_
 refine qm ?_
 refine EvO.nil ?_
 try subst hK
 try refine qy ?_
 obtain ⟨_, hev, all, rfl, hperm, hpair⟩ := make_ev (hx.rows hH) (by omega)
 have hM : MakeIs l (all.foldl joinR []).reverse := make_canon (fun x => hperm.mem_iff) hpair
 have hlen := hperm.length_eq
 have hfl := flatMap_len l
 have hjl := join_pos all
 rw [rightS_of hM]
 try refine qy ?_
 repeat refine qq ?_
 try generalize hK : SeqQ _ _ _ _ = K
 refine EvC.reg ?_
 refine qm ?_
 refine qm ?_
 refine EvO.hcall rfl rfl (hev) (put_T rfl _) ?_
 refine EvO.hcall rfl rfl (equal_ev (hx.rows hH) (rangesV_rows _ _) (by omega) (by rw [List.length_reverse]; omega)) (put_T rfl _) ?_
 refine qm ?_
 refine EvO.nil ?_
 try subst hK
 try refine qy ?_
 refine EvC.ret ⟨fun i h => (by cases h), _, rfl, leave_ro (by simp) hSb hH (rfl)⟩

theorem piece_ev {N : Nat} {S st : St} {H : List Ent} {x : D} {acc : List Rg} {lo hi : Int} (hF : S.flr ≤ N) (hH : Has N S st (.lst x 2 (acc.reverse.map rangeC) :: H)) (hl : acc.length ≤ 536870912) (hb : ∀ k ∈ acc, 0 ≤ k.2 + 1 ∧ k.2 + 1 ≤ 2147483647) :
  ∃ x' st', Ev pv 90 [x, .int .i32 lo, .int .i32 hi] st x' st' ∧ Has N S st' (.lst x' 2 ((pieceS acc lo hi).reverse.map rangeC) :: H) := by
 refine Ev.mkE rfl fi90 rfl rfl rfl ?_
 dsimp only [List.cons_append, List.nil_append, List.length, Nat.reduceSub, Nat.reduceAdd, List.replicate_succ, List.replicate_zero]
 change EvC _ _ _ _ st _
 try refine qy ?_
 repeat refine qq ?_
 try generalize hK : SeqQ _ _ _ _ = K
 refine EvC.reg ?_
 refine qm ?_
 refine EvO.nil ?_
 try subst hK
 try refine qy ?_
 rcases acc with _ | ⟨h, t⟩
 ·have hg3 : decide (((([] : List Rg).reverse.map rangeC).length : Int) > 0) = false := by decide
  try refine qy ?_
  repeat refine qq ?_
  refine EvC.cutT 21 (.bool false) [] ?_ (fun ff tmp htmp => ?_)
  ·refine qm ?_
   refine qn ?_ (hR := hH.rows at0)
   try simp only [List.length_map, List.length_append, List.length_cons, List.length_nil, List.length_set, List.length_replicate, List.length_reverse]
   refine qg ?_
   refine qm ?_
   refine qs ?_ (hg := wn hg3)
   refine qs ?_ (hg := wn hg3)
   refine qs ?_ (hg := wn hg3)
   refine qs ?_ (hg := wn hg3)
   refine qs ?_ (hg := wn hg3)
   refine qs ?_ (hg := wn hg3)
   refine qs ?_ (hg := wn hg3)
   refine qs ?_ (hg := wn hg3)
   refine qs ?_ (hg := wn hg3)
   refine qs ?_ (hg := wn hg3)
   refine qu hg3 ?_
   refine EvO.nil (leafT ?_ ?_)
   ·try dsimp only [setW, List.foldl, nth, u2, u1]
    all_goals (first | rfl | simp)
   ·try dsimp only [Fr.putO, Fr.put, Fr.clean, Fr.ev, Fr.get, nth, Go.V.look, u1, u2, v1, v2, v3, v4, v5, v6, v7, List.length, u3, u4, Nat.reduceSub, Nat.reduceAdd, List.map]
    all_goals (first | rfl | (simp [hg3]; done) | (simp_all; done) | (simp [hg3]; omega) | (simp_all; omega))
  try dsimp only [setW, List.foldl, nth, u2, u1]
  try dsimp only [Fr.putO, Fr.put, Fr.clean, Fr.ev, Fr.get, nth, Go.V.look, u1, u2, v1, v2, v3, v4, v5, v6, v7, List.length, u3, u4, Nat.reduceSub, Nat.reduceAdd, List.map]
  try refine qy ?_
  repeat refine qq ?_
  refine EvC.cond (v := false) (by assumption) (fun h => by cases h) (fun _ => ?_)
  try refine qy ?_
  refine EvC.skip ?_
  try refine qy ?_
  repeat refine qq ?_
  try generalize hK : SeqQ _ _ _ _ = K
  refine EvC.reg ?_
  refine qm ?_
  refine qm ?_
  refine qm ?_
  refine qg ?_
  refine qh (s := 2) (vs := [_]) hH fun k34 st hk34 hH => ?_
  try dsimp only [u2, u1, u3, u4, setMany, u5, u6, D.cells, Nat.reduceAdd, rangeC] at hH
  refine qP hH at1 (hH.rows at0) fun x35 st hH => ?_
  try dsimp only [u2, u1, u3, u4, setMany, u5, u6, D.cells, Nat.reduceAdd, rangeC] at hH
  refine qm ?_
  refine EvO.nil ?_
  try subst hK
  try refine qy ?_
  refine EvC.ret ⟨fun i h => (by cases h), _, _, _, rfl, rfl, ?_⟩
  exact hH.drop 1
 ·have hlast := last_get h t
  have hset := last_set h (h.1, hi) t
  have hbh := hb h (List.mem_cons_self ..)
  simp only [List.length_cons] at hl
  have hg3 : decide (((t.length + 1 : Nat) : Int) > 0) = true := by rw [decide_eq_true]; omega
  try refine qy ?_
  repeat refine qq ?_
  refine EvC.cutT 21 (.bool (decide (h.2 + 1 = lo))) [] ?_ (fun ff tmp htmp => ?_)
  ·refine qm ?_
   refine qn ?_ (hR := hH.rows at0)
   try simp only [List.length_map, List.length_append, List.length_cons, List.length_nil, List.length_set, List.length_replicate, List.length_reverse]
   refine qg ?_
   refine qm ?_
   refine qm ?_ (hg := wi hg3)
   refine qm ?_ (hg := wi hg3)
   refine qn ?_ (hR := hH.rows at0) (hg := wi hg3)
   try simp only [List.length_map, List.length_append, List.length_cons, List.length_nil, List.length_set, List.length_replicate, List.length_reverse]
   refine EvO.subZ (z := ((t.length : Nat) : Int)) (wantD_is rfl rfl rfl hg3) (ev rfl) (ev rfl) (by (try simp only [List.length_reverse, List.length_cons, List.length_nil, List.length_append, List.length_map, List.length_set]); rw [wrap_i64 (by omega) (by omega)] <;> omega) (put_T rfl _) ?_
   refine qi hH at0 (fun p15 hp15 => ?_) (hg := wi hg3)
   refine EvO.ofieldN (fo := 1) (m := 0) (o2 := 1) (wantD_is rfl rfl rfl hg3) (ev rfl) (by assumption) rfl rfl rfl (fun _ => (put_T rfl _)) (fun p16 hp16 => ?_)
   refine qo hH at0 ?_ (hg := wi hg3)
   refine EvO.addS32 (wantD_is rfl rfl rfl hg3) (ev rfl) (ev rfl) (by omega) (by omega) (put_T rfl _) ?_
   refine qm ?_ (hg := wi hg3)
   refine qg ?_ (hg := wi hg3)
   refine qt hg3 ?_
   refine EvO.nil (leafT ?_ ?_)
   ·try dsimp only [setW, List.foldl, nth, u2, u1]
    all_goals (first | rfl | simp)
   ·try dsimp only [Fr.putO, Fr.put, Fr.clean, Fr.ev, Fr.get, nth, Go.V.look, u1, u2, v1, v2, v3, v4, v5, v6, v7, List.length, u3, u4, Nat.reduceSub, Nat.reduceAdd, List.map]
    all_goals (rfl)
  try dsimp only [setW, List.foldl, nth, u2, u1]
  try dsimp only [Fr.putO, Fr.put, Fr.clean, Fr.ev, Fr.get, nth, Go.V.look, u1, u2, v1, v2, v3, v4, v5, v6, v7, List.length, u3, u4, Nat.reduceSub, Nat.reduceAdd, List.map]
  try refine qy ?_
  repeat refine qq ?_
  refine qc (fun h2 => ?_) (fun h2 => ?_) <;> try simp only [cs] at h2
  ·try refine qy ?_
   repeat refine qq ?_
   try generalize hK : SeqQ _ _ _ _ = K
   refine EvC.reg ?_
   refine qm ?_
   refine qm ?_
   refine qn ?_ (hR := hH.rows at0)
   try simp only [List.length_map, List.length_append, List.length_cons, List.length_nil, List.length_set, List.length_replicate, List.length_reverse]
   refine EvO.subZ (z := ((t.length : Nat) : Int)) rfl (ev rfl) (ev rfl) (by (try simp only [List.length_reverse, List.length_cons, List.length_nil, List.length_append, List.length_map, List.length_set]); rw [wrap_i64 (by omega) (by omega)] <;> omega) (put_T rfl _) ?_
   refine qm ?_
   refine qi hH at0 fun p27 hp27 => ?_
   refine EvO.ofieldN (fo := 1) (m := 0) (o2 := 1) rfl (ev rfl) (by assumption) rfl rfl rfl (fun _ => (put_T rfl _)) (fun p28 hp28 => ?_)
   refine EvO.ostore hH rfl (ev rfl) (ev rfl) (by assumption) rfl rfl (by exact at0) (by assumption) (Nat.le_of_ble_eq_true rfl) (by exact .inl hF) (fun st hH => ?_)
   try dsimp only [u2, u1, u3, u4, setMany, u5, u6, D.cells, Nat.reduceAdd, rangeC] at hH
   refine EvO.nil ?_
   try subst hK
   try refine qy ?_
   repeat refine qq ?_
   try generalize hK : SeqQ _ _ _ _ = K
   refine EvC.reg ?_
   refine qm ?_
   refine qm ?_
   refine EvO.nil ?_
   try subst hK
   try refine qy ?_
   refine EvC.ret ⟨fun i h => (by cases h), _, _, _, rfl, rfl, ?_⟩
   simp only [pieceS, if_pos h2]; rw [← hset]; exact hH
  ·refine EvC.skip ?_
   try refine qy ?_
   repeat refine qq ?_
   try generalize hK : SeqQ _ _ _ _ = K
   refine EvC.reg ?_
   refine qm ?_
   refine qm ?_
   refine qm ?_
   refine qg ?_
   refine qh (s := 2) (vs := [_]) hH fun k34 st hk34 hH => ?_
   try dsimp only [u2, u1, u3, u4, setMany, u5, u6, D.cells, Nat.reduceAdd, rangeC] at hH
   refine qP hH at1 (hH.rows at0) fun x35 st hH => ?_
   try dsimp only [u2, u1, u3, u4, setMany, u5, u6, D.cells, Nat.reduceAdd, rangeC] at hH
   refine qm ?_
   refine EvO.nil ?_
   try subst hK
   try refine qy ?_
   refine EvC.ret ⟨fun i h => (by cases h), _, _, _, rfl, rfl, ?_⟩
   simp only [pieceS, if_neg h2]; rw [List.reverse_cons (a := (lo, hi)), List.map_append]; exact hH.drop 1

theorem piece_len (acc : List Rg) (lo hi : Int) : (pieceS acc lo hi).length ≤ acc.length + 1 := by
 unfold pieceS; split
 ·simp
 ·split <;> simp

theorem okM_eq (l : List Rg) (a b : Int) : okM l true a b = ((decide (a < b) && (decide (a < 55296) || decide (a > 57343))) && hasS l a) := by
 unfold okM
 cases hasS l a <;> simp

theorem refMake_ev {s0 : St} {x : D} {l : List Rg} (hx : V.Rows s0 2 x (l.map rangeC)) (hl : l.length ≤ 134217728) : ∃ d, Ev pv 81 [x] s0 d s0 ∧ ∃ a : List Rg, d = rangesV a ∧ MakeIs l a := by
 refine Ev.mkR rfl fi81 rfl rfl rfl ?_
 dsimp only [List.cons_append, List.nil_append, List.length, Nat.reduceSub, Nat.reduceAdd, List.replicate_succ, List.replicate_zero]
 have hSb : (enterSt .ro s0).bs = s0.bs := rfl
 have hF : (enterSt .ro s0).flr ≤ s0.bs.length := Nat.le_refl _
 have hH : Has s0.bs.length (enterSt .ro s0) (enterSt .ro s0) [] := Has.start (Nat.le_refl _) (Nat.le_refl _)
 generalize enterSt .ro s0 = S at *
 have hx := Arg.of hx hSb
 try refine qy ?_
 repeat refine qq ?_
 try generalize hK : SeqQ _ _ _ _ = K
 refine EvC.reg ?_
 refine qm ?_
 refine EvO.nil ?_
 try subst hK
 try refine qy ?_
 obtain ⟨_, hev, m, rfl, hperm, hpair⟩ := marks_ev (hx.rows hH) (by omega)
 have hlen := hperm.length_eq
 have hfl := ends_flat l
 have hml : m.length = 4 + (l.flatMap endsS).length := by rw [hlen]; simp [marks0]; omega
 have hmr : ∀ q ∈ m, 0 ≤ q ∧ q ≤ 1114112 := by
  intro q hq
  have := hperm.mem_iff.1 hq
  simp only [marks0, List.mem_append, List.mem_cons, List.not_mem_nil, or_false, List.mem_flatMap] at this
  rcases this with (h | h | h | h) | ⟨y, _, hy⟩
  ·omega
  ·omega
  ·omega
  ·omega
  ·unfold endsS at hy
   split at hy <;> split at hy <;> simp at hy <;> omega
 have hM := refmake_canon (l := l) (m := m) true (fun q => by
  rw [hperm.mem_iff]
  simp only [marks0, List.mem_append, List.mem_cons, List.not_mem_nil, or_false, List.mem_flatMap, or_assoc]) hpair
 have hMI : MakeIs l (piecesS l true m []).reverse := ⟨hM.1, fun r => by rw [hM.2 r]; simp⟩
 try refine qy ?_
 repeat refine qq ?_
 try generalize hK : SeqQ _ _ _ _ = K
 refine EvC.reg ?_
 refine qm ?_
 refine EvO.hcall rfl rfl (hev) (put_T rfl _) ?_
 refine qm ?_
 refine EvO.nil ?_
 try subst hK
 try refine qy ?_
 have hm0 := Arg.pure (N := s0.bs.length) (S := S) (s := 1) (es := (m.map runeC).map (elD 1)) (fun st => runesV_rows st m)
 change Arg s0.bs.length S 1 (runesV m) _ at hm0
 try refine qy ?_
 repeat refine qq ?_
 try generalize hK : SeqQ _ _ _ _ = K
 refine EvC.reg ?_
 refine qm ?_
 refine EvO.nil ?_
 try subst hK
 try refine qy ?_
 repeat refine qq ?_
 try generalize hK : SeqQ _ _ _ _ = K
 refine EvC.reg ?_
 refine qm ?_
 refine EvO.nil ?_
 try subst hK
 try refine qy ?_
 have hH := hH.nulE 2
 try refine qy ?_
 repeat refine qq ?_
 refine EvC.block ?_
 refine EvC.loop (fun mm fr st => ∃ (i : Nat) (y : D) (acc : List Rg), fr.clean = ⟨6, [x, ixF_Je fr 1, ixF_Je fr 2, runesV m, y, .int .i64 (i : Nat)], []⟩ ∧ Has s0.bs.length S st [.lst y 2 (acc.reverse.map rangeC)] ∧ (i + mm = m.length) ∧ (piecesS l true (m.drop i) acc = piecesS l true m []) ∧ (acc.length ≤ i) ∧ (∀ k ∈ acc, 0 ≤ k.2 + 1 ∧ k.2 + 1 ≤ 1114112)) (m.length) ?_ ?_
 ·exact ⟨0, .nul, [], rfl, hH, by omega, rfl, by simp, by simp⟩
 rintro mm fr st ⟨i, y, acc, hfr, hH, hi, hp, hal, hab⟩
 rw [hfr]
 clear hfr
 try generalize ixF_Je fr = ee
 clear fr
 try refine qy ?_
 repeat refine qq ?_
 try generalize hK : SeqQ _ _ _ _ = K
 refine EvC.reg ?_
 refine qm ?_
 refine qA ?_
 refine qm ?_
 refine qn ?_
 try simp only [List.length_map, List.length_append, List.length_cons, List.length_nil, List.length_set, List.length_replicate, List.length_reverse]
 refine qg ?_
 refine EvO.nil ?_
 try subst hK
 try refine qy ?_
 repeat refine qq ?_
 refine qc (fun h1 => ?_) (fun h1 => ?_) <;> try simp only [cs] at h1
 ·refine EvC.skip ?_
  try refine qy ?_
  obtain ⟨a, ha⟩ : ∃ a, m[i]? = some a := ⟨m[i]'(by omega), List.getElem?_eq_getElem _⟩
  obtain ⟨b, hb⟩ : ∃ b, m[i + 1]? = some b := ⟨m[i + 1]'(by omega), List.getElem?_eq_getElem _⟩
  have hr1 := rune_get ha
  have hr2 := rune_get hb
  have hbr := hmr b (List.mem_of_getElem? hb)
  have har := hmr a (List.mem_of_getElem? ha)
  have hdr : m.drop i = a :: b :: m.drop (i + 2) := by
   rw [List.drop_eq_getElem_cons (by omega), List.drop_eq_getElem_cons (by omega)]
   rw [List.getElem?_eq_getElem (by omega)] at ha hb
   rw [Option.some.inj ha, Option.some.inj hb]
  have hdr1 : m.drop (i + 1) = b :: m.drop (i + 2) := by
   rw [List.drop_eq_getElem_cons (by omega)]
   rw [List.getElem?_eq_getElem (by omega)] at hb
   rw [Option.some.inj hb]
  rw [hdr, piecesS, ← hdr1, okM_eq] at hp
  try refine qy ?_
  repeat refine qq ?_
  refine EvC.block ?_
  try refine qy ?_
  repeat refine qq ?_
  refine EvC.cutT 46 (.bool ((decide (a < b) && (decide (a < 55296) || decide (a > 57343))) && hasS l a)) [] ?_ (fun ff tmp htmp => ?_)
  ·refine qm ?_
   refine qm ?_
   refine qr fun p17 hp17 => ?_
   refine qR ?_
   refine qm ?_
   refine qm ?_
   refine qA ?_
   refine qr fun p22 hp22 => ?_
   refine qR ?_
   refine qg ?_
   refine qm ?_
   refine EvO.two 25 rfl (fun hg10 => ?_) (fun hg10 => ?_)
   ·refine qm ?_ (hg := wi hg10)
    refine qm ?_ (hg := wi hg10)
    refine qr (fun p28 hp28 => ?_) (hg := wi hg10)
    refine qR ?_ (hg := wi hg10)
    refine qg ?_ (hg := wi hg10)
    refine qm ?_ (hg := wi hg10)
    refine EvO.two 31 rfl (fun hg16 => ?_) (fun hg16 => ?_)
    ·refine qs ?_ (hg := wn hg16)
     refine qs ?_ (hg := wn hg16)
     refine qs ?_ (hg := wn hg16)
     refine qs ?_ (hg := wn hg16)
     refine qs ?_ (hg := wn hg16)
     refine EvO.pickT (wantD_is rfl rfl rfl hg10) rfl hg16 (put_T rfl _) ?_
     refine qt hg10 ?_
     refine qm ?_
     refine qm ?_
     refine qm ?_
     refine qm ?_
     refine qr fun p43 hp43 => ?_
     refine qR ?_
     refine EvO.hcall rfl rfl (refHas_ev (hx.rows hH) (by omega)) (put_T rfl _) ?_
     refine qg ?_
     refine EvO.nil (leafT ?_ ?_)
     ·try dsimp only [setW, List.foldl, nth, u2, u1]
      all_goals (first | rfl | simp)
     ·try dsimp only [Fr.putO, Fr.put, Fr.clean, Fr.ev, Fr.get, nth, Go.V.look, u1, u2, v1, v2, v3, v4, v5, v6, v7, List.length, u3, u4, Nat.reduceSub, Nat.reduceAdd, List.map]
      all_goals (simp [hg10, hg16]; done)
    ·refine qm ?_ (hg := wi hg16)
     refine qm ?_ (hg := wi hg16)
     refine qr (fun p34 hp34 => ?_) (hg := wi hg16)
     refine qR ?_ (hg := wi hg16)
     refine qg ?_ (hg := wi hg16)
     refine EvO.pickF (wantD_is rfl rfl rfl hg10) rfl hg16 (put_T rfl _) ?_
     refine qt hg10 ?_
     refine qm ?_
     refine EvO.two 39 rfl (fun hg24 => ?_) (fun hg24 => ?_)
     ·refine qm ?_ (hg := wi hg24)
      refine qm ?_ (hg := wi hg24)
      refine qm ?_ (hg := wi hg24)
      refine qr (fun p43 hp43 => ?_) (hg := wi hg24)
      refine qR ?_ (hg := wi hg24)
      refine EvO.hcall (wantD_is rfl rfl rfl hg24) rfl (refHas_ev (hx.rows hH) (by omega)) (put_T rfl _) ?_
      refine qt hg24 ?_
      refine EvO.nil (leafT ?_ ?_)
      ·try dsimp only [setW, List.foldl, nth, u2, u1]
       all_goals (first | rfl | simp)
      ·try dsimp only [Fr.putO, Fr.put, Fr.clean, Fr.ev, Fr.get, nth, Go.V.look, u1, u2, v1, v2, v3, v4, v5, v6, v7, List.length, u3, u4, Nat.reduceSub, Nat.reduceAdd, List.map]
       all_goals (simp [hg10, hg16, hg24]; done)
     ·refine qs ?_ (hg := wn hg24)
      refine qs ?_ (hg := wn hg24)
      refine qs ?_ (hg := wn hg24)
      refine qs ?_ (hg := wn hg24)
      refine qs ?_ (hg := wn hg24)
      refine qs ?_ (hg := wn hg24)
      refine qu hg24 ?_
      refine EvO.nil (leafT ?_ ?_)
      ·try dsimp only [setW, List.foldl, nth, u2, u1]
       all_goals (first | rfl | simp)
      ·try dsimp only [Fr.putO, Fr.put, Fr.clean, Fr.ev, Fr.get, nth, Go.V.look, u1, u2, v1, v2, v3, v4, v5, v6, v7, List.length, u3, u4, Nat.reduceSub, Nat.reduceAdd, List.map]
       all_goals (simp [hg10, hg16, hg24]; done)
   ·refine qs ?_ (hg := wn hg10)
    refine qs ?_ (hg := wn hg10)
    refine qs ?_ (hg := wn hg10)
    refine qs ?_ (hg := wn hg10)
    refine qs ?_ (hg := wn hg10)
    refine qs ?_ (hg := wn hg10)
    refine qs ?_
    refine qs ?_
    refine qs ?_
    refine qs ?_
    refine qs ?_
    refine qs ?_ (hg := wn hg10)
    refine qu hg10 ?_
    refine qm ?_
    refine qs ?_
    refine qs ?_
    refine qs ?_
    refine qs ?_
    refine qs ?_
    refine qs ?_
    refine qg ?_
    refine EvO.nil (leafT ?_ ?_)
    ·try dsimp only [setW, List.foldl, nth, u2, u1]
     all_goals (first | rfl | simp)
    ·try dsimp only [Fr.putO, Fr.put, Fr.clean, Fr.ev, Fr.get, nth, Go.V.look, u1, u2, v1, v2, v3, v4, v5, v6, v7, List.length, u3, u4, Nat.reduceSub, Nat.reduceAdd, List.map]
     all_goals (simp [hg10]; done)
  try dsimp only [setW, List.foldl, nth, u2, u1]
  try dsimp only [Fr.putO, Fr.put, Fr.clean, Fr.ev, Fr.get, nth, Go.V.look, u1, u2, v1, v2, v3, v4, v5, v6, v7, List.length, u3, u4, Nat.reduceSub, Nat.reduceAdd, List.map]
  try refine qy ?_
  repeat refine qq ?_
  refine qc (fun h2 => ?_) (fun h2 => ?_) <;> try simp only [cs] at h2
  ·rw [h2, if_pos rfl] at hp
   have hpl := piece_len acc a (b - 1)
   obtain ⟨x', st', hev2, hH2⟩ := piece_ev (acc := acc) (lo := a) (hi := b - 1) hF hH (by omega) (fun k hk => by have := hab k hk; omega)
   try refine qy ?_
   repeat refine qq ?_
   try generalize hK : SeqQ _ _ _ _ = K
   refine EvC.reg ?_
   refine qm ?_
   refine qm ?_
   refine qm ?_
   refine qr fun p50 hp50 => ?_
   refine qR ?_
   refine qm ?_
   refine qm ?_
   refine qA ?_
   refine qr fun p55 hp55 => ?_
   refine qR ?_
   refine EvO.subS32 rfl (ev rfl) (ev rfl) (by omega) (by omega) (put_T rfl _) ?_
   refine EvO.hcall rfl rfl (hev2) (put_T rfl _) ?_
   refine qm ?_
   refine EvO.nil ?_
   try subst hK
   try refine qy ?_
   have hH := hH2
   try refine qy ?_
   repeat refine qq ?_
   try generalize hK : SeqQ _ _ _ _ = K
   refine EvC.reg ?_
   refine qm ?_
   refine qA ?_
   refine qm ?_
   refine EvO.nil ?_
   try subst hK
   try refine qy ?_
   refine ⟨mm - 1, by omega, ⟨i + 1, x', pieceS acc a (b - 1), rfl, hH, by omega, hp, by omega, ?_⟩⟩
   intro k hk
   unfold pieceS at hk
   split at hk
   ·simp only [List.mem_cons, List.not_mem_nil, or_false] at hk; subst hk; simp only; omega
   ·rename_i h t
    split at hk
    ·rcases List.mem_cons.1 hk with rfl | hk
     ·simp only; omega
     ·exact hab k (List.mem_cons_of_mem _ hk)
    ·rcases List.mem_cons.1 hk with rfl | hk
     ·simp only; omega
     ·exact hab k hk
  ·rw [h2] at hp
   refine EvC.skip ?_
   try refine qy ?_
   repeat refine qq ?_
   try generalize hK : SeqQ _ _ _ _ = K
   refine EvC.reg ?_
   refine qm ?_
   refine qA ?_
   refine qm ?_
   refine EvO.nil ?_
   try subst hK
   try refine qy ?_
   exact ⟨mm - 1, by omega, ⟨i + 1, y, acc, rfl, hH, by omega, hp, by omega, hab⟩⟩
 ·try refine qy ?_
  refine EvC.exit ?_
  try refine qy ?_
  repeat refine qq ?_
  try generalize hK : SeqQ _ _ _ _ = K
  refine EvC.reg ?_
  refine qm ?_
  refine qm ?_
  refine EvO.nil ?_
  try subst hK
  try refine qy ?_
  have hfin : acc = piecesS l true m [] := by
   rw [← hp]
   have hdl : (m.drop i).length ≤ 1 := by rw [List.length_drop]; omega
   match hd : m.drop i, hdl with
   | [], _ => rfl
   | [_], _ => rfl
  refine EvC.ret ⟨fun i h => (by cases h), _, _, rfl, leave_ro (by simp) hSb hH ((hH.freeze at0 (range_plain _) (n := 15) (by decide))), ?_⟩
  exact ⟨acc.reverse, by rw [rangesV_el], by rw [hfin]; exact hMI⟩

theorem refRight_ev {s0 : St} {x : D} {l : List Rg} (hx : V.Rows s0 2 x (l.map rangeC)) (hl : l.length ≤ 1048576) : Ev pv 67 [x] s0 (.bool (rightS l)) s0 := by
 refine Ev.mk1 rfl fi67 rfl rfl rfl ?_
 dsimp only [List.cons_append, List.nil_append, List.length, Nat.reduceSub, Nat.reduceAdd, List.replicate_succ, List.replicate_zero]
 have hSb : (enterSt .ro s0).bs = s0.bs := rfl
 have hF : (enterSt .ro s0).flr ≤ s0.bs.length := Nat.le_refl _
 have hH : Has s0.bs.length (enterSt .ro s0) (enterSt .ro s0) [] := Has.start (Nat.le_refl _) (Nat.le_refl _)
 generalize enterSt .ro s0 = S at *
 have hx := Arg.of hx hSb
 try refine qy ?_
 repeat refine qq ?_
 try generalize hK : SeqQ _ _ _ _ = K
 refine EvC.reg ?_
 refine qm ?_
 refine EvO.nil ?_
 try subst hK
 try refine qy ?_
 obtain ⟨_, hev, m, rfl, hM⟩ := refMake_ev (hx.rows hH) (by omega)
 rw [rightS_of hM]
 try refine qy ?_
 repeat refine qq ?_
 try generalize hK : SeqQ _ _ _ _ = K
 refine EvC.reg ?_
 refine qm ?_
 refine EvO.hcall rfl rfl (hev) (put_T rfl _) ?_
 refine qm ?_
 refine EvO.nil ?_
 try subst hK
 try refine qy ?_
 have hm0 : Arg s0.bs.length S 2 (rangesV m) (m.map rangeC) := Arg.pure (fun st => rangesV_rows st m)
 try refine qy ?_
 repeat refine qq ?_
 try generalize hK : SeqQ _ _ _ _ = K
 refine EvC.reg ?_
 refine qm ?_
 refine qn ?_
 try simp only [List.length_map, List.length_append, List.length_cons, List.length_nil, List.length_set, List.length_replicate, List.length_reverse]
 refine qm ?_
 refine qn ?_
 try simp only [List.length_map, List.length_append, List.length_cons, List.length_nil, List.length_set, List.length_replicate, List.length_reverse]
 refine qg ?_
 refine EvO.nil ?_
 try subst hK
 try refine qy ?_
 by_cases hlen : m.length = l.length
 ·refine EvC.cond (v := false) ?_ (fun h => by cases h) (fun _ => ?_)
  ·dsimp only [Fr.ev, Fr.get, nth, Go.V.look]; rw [hlen]; simp
  refine EvC.skip ?_
  try refine qy ?_
  repeat refine qq ?_
  try generalize hK : SeqQ _ _ _ _ = K
  refine EvC.reg ?_
  refine qm ?_
  refine EvO.nil ?_
  try subst hK
  try refine qy ?_
  repeat refine qq ?_
  refine EvC.block ?_
  refine EvC.loop (fun mm fr st => ∃ (i : Nat), fr.clean = ⟨5, [x, ixF_Je fr 1, .bool false, rangesV m, .int .i64 (i : Nat)], []⟩ ∧ Has s0.bs.length S st [] ∧ (i + mm = l.length) ∧ (l.take i = m.take i)) (l.length) ?_ ?_
  ·exact ⟨0, rfl, hH, by omega, rfl⟩
  rintro mm fr st ⟨i, hfr, hH, hi, ht⟩
  rw [hfr]
  clear hfr
  try generalize ixF_Je fr = ee
  clear fr
  try refine qy ?_
  repeat refine qq ?_
  try generalize hK : SeqQ _ _ _ _ = K
  refine EvC.reg ?_
  refine qm ?_
  refine qm ?_
  refine qn ?_
  try simp only [List.length_map, List.length_append, List.length_cons, List.length_nil, List.length_set, List.length_replicate, List.length_reverse]
  refine qg ?_
  refine EvO.nil ?_
  try subst hK
  try refine qy ?_
  repeat refine qq ?_
  refine qc (fun h1 => ?_) (fun h1 => ?_) <;> try simp only [cs] at h1
  ·refine EvC.skip ?_
   try refine qy ?_
   obtain ⟨p, hp⟩ : ∃ p, l[i]? = some p := ⟨l[i]'(by omega), List.getElem?_eq_getElem _⟩
   obtain ⟨q, hq⟩ : ∃ q, m[i]? = some q := ⟨m[i]'(by omega), List.getElem?_eq_getElem _⟩
   have hr1 := range_get hp
   have hr2 := range_get hq
   try refine qy ?_
   repeat refine qq ?_
   refine EvC.block ?_
   try refine qy ?_
   repeat refine qq ?_
   try generalize hK : SeqQ _ _ _ _ = K
   refine EvC.reg ?_
   refine qm ?_
   refine qm ?_
   refine qr fun p20 hp20 => ?_
   refine EvO.rloadS rfl (ev rfl) (by assumption) rfl (put_T rfl _) ?_
   refine qm ?_
   refine qm ?_
   refine qr fun p24 hp24 => ?_
   refine EvO.rloadS rfl (ev rfl) (by assumption) rfl (put_T rfl _) ?_
   refine EvO.neB rfl (ev rfl) (ev rfl) (neq_range q p) (put_T rfl _) ?_
   refine EvO.nil ?_
   try subst hK
   try refine qy ?_
   repeat refine qq ?_
   refine qc (fun h2 => ?_) (fun h2 => ?_) <;> try simp only [cs] at h2
   ·try refine qy ?_
    repeat refine qq ?_
    try generalize hK : SeqQ _ _ _ _ = K
    refine EvC.reg ?_
    refine qm ?_
    refine EvO.nil ?_
    try subst hK
    try refine qy ?_
    rw [decide_eq_false (ne_of_get hp hq (by simpa [eq_comm] using h2))]
    refine EvC.ret ⟨fun i h => (by cases h), _, rfl, leave_ro (by simp) hSb hH (rfl)⟩
   ·refine EvC.skip ?_
    try refine qy ?_
    repeat refine qq ?_
    try generalize hK : SeqQ _ _ _ _ = K
    refine EvC.reg ?_
    refine qm ?_
    refine qA ?_
    refine qm ?_
    refine EvO.nil ?_
    try subst hK
    try refine qy ?_
    exact ⟨mm - 1, by omega, ⟨i + 1, rfl, hH, by omega, take_eq_step hp hq ht (by simpa [eq_comm] using h2)⟩⟩
  ·try refine qy ?_
   refine EvC.exit ?_
   try refine qy ?_
   repeat refine qq ?_
   try generalize hK : SeqQ _ _ _ _ = K
   refine EvC.reg ?_
   refine qm ?_
   refine EvO.nil ?_
   try subst hK
   try refine qy ?_
   rw [decide_eq_true (by rw [List.take_of_length_le (by omega), List.take_of_length_le (by omega)] at ht; exact ht)]
   refine EvC.ret ⟨fun i h => (by cases h), _, rfl, leave_ro (by simp) hSb hH (rfl)⟩
 ·refine EvC.cond (v := true) ?_ (fun _ => ?_) (fun h => by cases h)
  ·dsimp only [Fr.ev, Fr.get, nth, Go.V.look]; simp; omega
  try refine qy ?_
  repeat refine qq ?_
  try generalize hK : SeqQ _ _ _ _ = K
  refine EvC.reg ?_
  refine qm ?_
  refine EvO.nil ?_
  try subst hK
  try refine qy ?_
  rw [decide_eq_false (fun h => hlen (by rw [h]))]
  refine EvC.ret ⟨fun i h => (by cases h), _, rfl, leave_ro (by simp) hSb hH (rfl)⟩
end Go.Proofs.Ytbdilgkfnacahaa
