/-
 The document's Make: marks, sorted; pieces.
-/
import Derived.Test.YtbdilgkfnacahaaJa
namespace Go.Proofs.Ytbdilgkfnacahaa
open Go.V Go
set_option maxRecDepth 100000
set_option maxHeartbeats 4000000
set_option linter.unusedSimpArgs false
set_option linter.unusedVariables false

/-- what a frame holds at a slot -/
def ixF_Jd (fr : Go.V.Fr) (k : Nat) : Go.V.D := Go.V.nth .junk fr.loc k

def runeC (r : Int) : List D := [.int .i32 r]
def runesV (l : List Int) : D := .sl ((l.map runeC).map (elD 1))
theorem rune_plain (l : List Int) : ∀ e ∈ l.map runeC, ∀ d ∈ e, plainC d = true := by
 intro e he d hd
 obtain ⟨x, _, rfl⟩ := List.mem_map.1 he
 simp only [runeC, List.mem_cons, List.not_mem_nil, or_false] at hd
 subst hd; rfl
theorem rune_len (l : List Int) : ∀ e ∈ l.map runeC, e.length = 1 := by
 intro e he; obtain ⟨x, _, rfl⟩ := List.mem_map.1 he; rfl
theorem runesV_rows (st : St) (l : List Int) : V.Rows st 1 (runesV l) (l.map runeC) := Rows.ofFrozen (rune_len l) (rune_plain l)
theorem rune_get {l : List Int} {i : Nat} {q : Int} (h : l[i]? = some q) : (l.map runeC)[i]? = some (runeC q) := by rw [List.getElem?_map, h]; rfl

def marks0 (l : List Rg) : List Int := [0, 55296, 57344, 1114112] ++ l.flatMap endsS

theorem ends_len (x : Rg) : (endsS x).length ≤ 2 := by
 unfold endsS; split <;> split <;> simp
theorem ends_flat (l : List Rg) : (l.flatMap endsS).length ≤ 2 * l.length := by
 induction l with
 | nil => simp
 | cons x l ih => simp only [List.flatMap_cons, List.length_append, List.length_cons]; have := ends_len x; omega

/-- sorted up to i, but for what stands at k -/
def sortedBut (m : List Int) (i k : Nat) : Prop := ∀ a b, a < b → b ≤ i → b ≠ k → m.getD a 0 ≤ m.getD b 0

theorem getD_set (m : List Int) (k : Nat) (v : Int) (hk : k < m.length) (a : Nat) : (m.set k v).getD a 0 = if a = k then v else m.getD a 0 := by
 simp only [List.getD_eq_getElem?_getD]
 by_cases h : a = k
 ·subst h; rw [List.getElem?_set_self hk, if_pos rfl]; rfl
 ·rw [List.getElem?_set_ne (fun e => h e.symm), if_neg h]

theorem sorted_swap {m : List Int} {i k : Nat} (hk : k + 1 ≤ i) (hi : i < m.length) (h : sortedBut m i (k + 1)) (hgt : m.getD k 0 > m.getD (k + 1) 0) : sortedBut ((m.set k (m.getD (k + 1) 0)).set (k + 1) (m.getD k 0)) i k := by
 intro a b hab hbi hbk
 have hl : (m.set k (m.getD (k + 1) 0)).length = m.length := List.length_set ..
 rw [getD_set _ _ _ (by rw [hl]; omega), getD_set _ _ _ (by omega), getD_set _ _ _ (by rw [hl]; omega), getD_set _ _ _ (by omega)]
 by_cases h1 : b = k + 1
 ·rw [if_pos h1, if_neg (by omega)]
  by_cases h2 : a = k
  ·rw [if_pos h2]; omega
  ·rw [if_neg h2]; exact h a k (by omega) (by omega) (by omega)
 ·rw [if_neg h1, if_neg hbk]
  by_cases h2 : a = k + 1
  ·rw [if_pos h2]; exact h k b (by omega) hbi h1
  ·rw [if_neg h2]
   by_cases h3 : a = k
   ·rw [if_pos h3]; exact h (k + 1) b (by omega) hbi h1
   ·rw [if_neg h3]; exact h a b hab hbi h1

theorem sorted_done {m : List Int} {i k : Nat} (h : sortedBut m i k) (hx : k = 0 ∨ m.getD (k - 1) 0 ≤ m.getD k 0) (j : Nat) : sortedBut m i j := by
 intro a b hab hbi _
 by_cases hb : b = k
 ·subst hb
  have hx := hx.resolve_left (by omega)
  by_cases ha : a = b - 1
  ·rw [ha]; exact hx
  ·exact Int.le_trans (h a (b - 1) (by omega) (by omega) (by omega)) hx
 ·exact h a b hab hbi hb

theorem swap_perm {m : List Int} {k : Nat} (hk : k + 1 < m.length) : ((m.set k (m.getD (k + 1) 0)).set (k + 1) (m.getD k 0)).Perm m := by
 have h0 : m = m.take k ++ (m.getD k 0 :: m.getD (k + 1) 0 :: m.drop (k + 2)) := by
  have e1 : m.drop k = m.getD k 0 :: m.drop (k + 1) := by rw [List.drop_eq_getElem_cons (by omega)]; simp [List.getD_eq_getElem?_getD, List.getElem?_eq_getElem (show k < m.length by omega)]
  have e2 : m.drop (k + 1) = m.getD (k + 1) 0 :: m.drop (k + 2) := by rw [List.drop_eq_getElem_cons (by omega)]; simp [List.getD_eq_getElem?_getD, List.getElem?_eq_getElem hk]
  rw [← e2, ← e1, List.take_append_drop]
 have hlen : (m.take k).length = k := by simp; omega
 generalize m.getD k 0 = x at *
 generalize m.getD (k + 1) 0 = y at *
 generalize m.take k = l1 at *
 generalize m.drop (k + 2) = l2 at *
 subst h0
 rw [List.set_append_right _ _ (by omega), List.set_append_right _ _ (by omega), hlen, Nat.sub_self, Nat.add_sub_cancel_left]
 exact (List.Perm.swap x y l2).append_left l1

theorem sorted_pair {m : List Int} {i : Nat} (h : sortedBut m i (i + 1)) (hi : i + 1 ≥ m.length) : m.Pairwise (· ≤ ·) := by
 rw [List.pairwise_iff_getElem]
 intro a b ha hb hab
 have := h a b hab (by omega) (by omega)
 simpa [List.getD_eq_getElem?_getD, List.getElem?_eq_getElem ha, List.getElem?_eq_getElem hb] using this

theorem marks_ev {s0 : St} {x : D} {l : List Rg} (hx : V.Rows s0 2 x (l.map rangeC)) (hl : l.length ≤ 268435456) : ∃ d, Ev pv 89 [x] s0 d s0 ∧ ∃ m : List Int, d = runesV m ∧ m.Perm (marks0 l) ∧ m.Pairwise (· ≤ ·) := by
 refine Ev.mkR rfl fi89 rfl rfl rfl ?_
 dsimp only [List.cons_append, List.nil_append, List.length, Nat.reduceSub, Nat.reduceAdd, List.replicate_succ, List.replicate_zero]
 have hSb : (enterSt .ro s0).bs = s0.bs := rfl
 have hF : (enterSt .ro s0).flr ≤ s0.bs.length := Nat.le_refl _
 have hH : Has s0.bs.length (enterSt .ro s0) (enterSt .ro s0) [] := Has.start (Nat.le_refl _) (Nat.le_refl _)
 generalize enterSt .ro s0 = S at *
 have hx := Arg.of hx hSb
 try refine qy ?_
 repeat refine qq ?_
 try generalize hK : SeqQ _ _ _ _ = K
 refine EvC.reg ?_
 refine qm ?_
 refine EvO.nil ?_
 try subst hK
 try refine qy ?_
 repeat refine qq ?_
 try generalize hK : SeqQ _ _ _ _ = K
 refine EvC.reg ?_
 refine qh (s := 1) (vs := [_, _, _, _]) hH fun k7 st hk7 hH => ?_
 try dsimp only [u2, u1, u3, u4, setMany, u5, u6, D.cells, Nat.reduceAdd, rangeC, runeC] at hH
 refine qm ?_
 refine EvO.nil ?_
 try subst hK
 try refine qy ?_
 repeat refine qq ?_
 try generalize hK : SeqQ _ _ _ _ = K
 refine EvC.reg ?_
 refine qm ?_
 refine EvO.nil ?_
 try subst hK
 try refine qy ?_
 have hfl := ends_flat l
 have h0 : marks0 (l.take 0) = [0, 55296, 57344, 1114112] := rfl
 have hml : ∀ i, (marks0 (l.take i)).length ≤ 4 + 2 * l.length := by
  intro i
  have := ends_flat (l.take i)
  simp only [marks0, List.length_append, List.length_cons, List.length_nil, List.length_take] at *
  omega
 try refine qy ?_
 repeat refine qq ?_
 refine EvC.block ?_
 refine EvC.loop (fun mm fr st => ∃ (i : Nat) (y : D), fr.clean = ⟨7, [x, ixF_Jd fr 1, ixF_Jd fr 2, y, .int .i64 (i : Nat), ixF_Jd fr 5, ixF_Jd fr 6], []⟩ ∧ Has s0.bs.length S st [.lst y 1 ((marks0 (l.take i)).map runeC)] ∧ (i + mm = l.length)) (l.length) ?_ ?_
 ·exact ⟨0, _, rfl, hH, by omega⟩
 rintro mm fr st ⟨i, y, hfr, hH, hi⟩
 rw [hfr]
 clear hfr
 try generalize ixF_Jd fr = ee
 clear fr
 try refine qy ?_
 repeat refine qq ?_
 try generalize hK : SeqQ _ _ _ _ = K
 refine EvC.reg ?_
 refine qm ?_
 refine qm ?_
 refine qn ?_
 try simp only [List.length_map, List.length_append, List.length_cons, List.length_nil, List.length_set, List.length_replicate, List.length_reverse]
 refine qg ?_
 refine EvO.nil ?_
 try subst hK
 try refine qy ?_
 repeat refine qq ?_
 refine qc (fun h1 => ?_) (fun h1 => ?_) <;> try simp only [cs] at h1
 ·refine EvC.skip ?_
  try refine qy ?_
  obtain ⟨q, hq⟩ : ∃ q, l[i]? = some q := ⟨l[i]'(by omega), List.getElem?_eq_getElem _⟩
  have hr := range_get hq
  have hm := hml i
  have hm1 : marks0 (l.take (i + 1)) = marks0 (l.take i) ++ endsS q := by
   rw [List.take_add_one, hq]; simp [marks0]
  try refine qy ?_
  repeat refine qq ?_
  refine EvC.block ?_
  try refine qy ?_
  repeat refine qq ?_
  refine EvC.cutT 40 (.bool (decide (q.1 ≤ q.2) && decide (q.1 ≥ 0) && decide (q.1 ≤ 1114111))) [] ?_ (fun ff tmp htmp => ?_)
  ·refine qm ?_
   refine qm ?_
   refine qr fun p16 hp16 => ?_
   refine qf (fo := 0) fun p17 hp17 => ?_
   refine qR ?_
   refine qm ?_
   refine qm ?_
   refine qr fun p21 hp21 => ?_
   refine qf (fo := 1) fun p22 hp22 => ?_
   refine qR ?_
   refine qg ?_
   refine qm ?_
   refine EvO.two 25 rfl (fun hg11 => ?_) (fun hg11 => ?_)
   ·refine qm ?_ (hg := wi hg11)
    refine qm ?_ (hg := wi hg11)
    refine qr (fun p28 hp28 => ?_) (hg := wi hg11)
    refine qf (fo := 0) (fun p29 hp29 => ?_) (hg := wi hg11)
    refine qR ?_ (hg := wi hg11)
    refine qg ?_ (hg := wi hg11)
    refine qt hg11 ?_
    refine qm ?_
    refine EvO.two 33 rfl (fun hg19 => ?_) (fun hg19 => ?_)
    ·refine qm ?_ (hg := wi hg19)
     refine qm ?_ (hg := wi hg19)
     refine qr (fun p36 hp36 => ?_) (hg := wi hg19)
     refine qf (fo := 0) (fun p37 hp37 => ?_) (hg := wi hg19)
     refine qR ?_ (hg := wi hg19)
     refine qg ?_ (hg := wi hg19)
     refine qt hg19 ?_
     refine EvO.nil (leafT ?_ ?_)
     ·try dsimp only [setW, List.foldl, nth, u2, u1]
      all_goals (first | rfl | simp)
     ·try dsimp only [Fr.putO, Fr.put, Fr.clean, Fr.ev, Fr.get, nth, Go.V.look, u1, u2, v1, v2, v3, v4, v5, v6, v7, List.length, u3, u4, Nat.reduceSub, Nat.reduceAdd, List.map]
      all_goals (simp [hg11, hg19]; done)
    ·refine qs ?_ (hg := wn hg19)
     refine qs ?_ (hg := wn hg19)
     refine qs ?_ (hg := wn hg19)
     refine qs ?_ (hg := wn hg19)
     refine qs ?_ (hg := wn hg19)
     refine qs ?_ (hg := wn hg19)
     refine qu hg19 ?_
     refine EvO.nil (leafT ?_ ?_)
     ·try dsimp only [setW, List.foldl, nth, u2, u1]
      all_goals (first | rfl | simp)
     ·try dsimp only [Fr.putO, Fr.put, Fr.clean, Fr.ev, Fr.get, nth, Go.V.look, u1, u2, v1, v2, v3, v4, v5, v6, v7, List.length, u3, u4, Nat.reduceSub, Nat.reduceAdd, List.map]
      all_goals (simp [hg11, hg19]; done)
   ·refine qs ?_ (hg := wn hg11)
    refine qs ?_ (hg := wn hg11)
    refine qs ?_ (hg := wn hg11)
    refine qs ?_ (hg := wn hg11)
    refine qs ?_ (hg := wn hg11)
    refine qs ?_ (hg := wn hg11)
    refine qu hg11 ?_
    refine qm ?_
    refine qs ?_
    refine qs ?_
    refine qs ?_
    refine qs ?_
    refine qs ?_
    refine qs ?_
    refine qg ?_
    refine EvO.nil (leafT ?_ ?_)
    ·try dsimp only [setW, List.foldl, nth, u2, u1]
     all_goals (first | rfl | simp)
    ·try dsimp only [Fr.putO, Fr.put, Fr.clean, Fr.ev, Fr.get, nth, Go.V.look, u1, u2, v1, v2, v3, v4, v5, v6, v7, List.length, u3, u4, Nat.reduceSub, Nat.reduceAdd, List.map]
     all_goals (simp [hg11]; done)
  try dsimp only [setW, List.foldl, nth, u2, u1]
  try dsimp only [Fr.putO, Fr.put, Fr.clean, Fr.ev, Fr.get, nth, Go.V.look, u1, u2, v1, v2, v3, v4, v5, v6, v7, List.length, u3, u4, Nat.reduceSub, Nat.reduceAdd, List.map]
  try refine qy ?_
  have hsp : endsS q = (if q.1 ≤ q.2 ∧ 0 ≤ q.1 ∧ q.1 ≤ 1114111 then [q.1] else []) ++ (if q.1 ≤ q.2 ∧ 0 ≤ q.2 ∧ q.2 < 1114111 then [q.2 + 1] else []) := rfl
  rw [hsp] at hm1
  generalize he1 : (if q.1 ≤ q.2 ∧ 0 ≤ q.1 ∧ q.1 ≤ 1114111 then [q.1] else []) = e1 at hm1
  generalize he2 : (if q.1 ≤ q.2 ∧ 0 ≤ q.2 ∧ q.2 < 1114111 then [q.2 + 1] else []) = e2 at hm1
  have hel1 : e1.length ≤ 1 := by rw [← he1]; split <;> simp
  try refine qy ?_
  repeat refine qq ?_
  refine EvC.merge (fun fr st => ∃ (y : D) (tmp : List (Nat × D)), fr = ⟨7, [x, ixF_Jd fr 1, ixF_Jd fr 2, y, .int .i64 (i : Nat), ixF_Jd fr 5, ixF_Jd fr 6], tmp⟩ ∧ Has s0.bs.length S st [.lst y 1 ((marks0 (l.take i) ++ e1).map runeC)]) ?_ ?_
  ·try refine qy ?_
   repeat refine qq ?_
   refine qc (fun h2 => ?_) (fun h2 => ?_) <;> try simp only [cs] at h2
   ·simp only [Bool.and_eq_true, decide_eq_true_eq] at h2
    rw [if_pos ⟨h2.1.1, h2.1.2, h2.2⟩] at he1
    try refine qy ?_
    repeat refine qq ?_
    try generalize hK : SeqQ _ _ _ _ = K
    refine EvC.reg ?_
    refine qm ?_
    refine qm ?_
    refine qm ?_
    refine qr fun p44 hp44 => ?_
    refine qf (fo := 0) fun p45 hp45 => ?_
    refine qR ?_
    refine qh (s := 1) (vs := [_]) hH fun k47 st hk47 hH => ?_
    try dsimp only [u2, u1, u3, u4, setMany, u5, u6, D.cells, Nat.reduceAdd, rangeC, runeC] at hH
    refine qP hH at1 (hH.rows at0) fun x48 st hH => ?_
    try dsimp only [u2, u1, u3, u4, setMany, u5, u6, D.cells, Nat.reduceAdd, rangeC, runeC] at hH
    refine qm ?_
    refine EvO.nil ?_
    try subst hK
    try refine qy ?_
    exact ⟨x48, _, rfl, (by rw [← he1, List.map_append]; exact hH.drop 1)⟩
   ·rw [if_neg (by rintro ⟨a, b, c⟩; simp [a, b, c] at h2)] at he1
    refine EvC.skip ?_
    try refine qy ?_
    exact ⟨y, _, rfl, (by rw [← he1, List.append_nil]; exact hH)⟩
  ·rintro fr st ⟨y, tmp, hfr, hH⟩
   rw [hfr]
   clear hfr
   try generalize ixF_Jd fr = ee
   clear fr
   try refine qy ?_
   repeat refine qq ?_
   refine EvC.cutT 75 (.bool (decide (q.1 ≤ q.2) && decide (q.2 ≥ 0) && decide (q.2 < 1114111))) [] ?_ (fun ff tmp htmp => ?_)
   ·refine qm ?_
    refine qm ?_
    refine qr fun p51 hp51 => ?_
    refine qf (fo := 0) fun p52 hp52 => ?_
    refine qR ?_
    refine qm ?_
    refine qm ?_
    refine qr fun p56 hp56 => ?_
    refine qf (fo := 1) fun p57 hp57 => ?_
    refine qR ?_
    refine qg ?_
    refine qm ?_
    refine EvO.two 60 rfl (fun hg11 => ?_) (fun hg11 => ?_)
    ·refine qm ?_ (hg := wi hg11)
     refine qm ?_ (hg := wi hg11)
     refine qr (fun p63 hp63 => ?_) (hg := wi hg11)
     refine qf (fo := 1) (fun p64 hp64 => ?_) (hg := wi hg11)
     refine qR ?_ (hg := wi hg11)
     refine qg ?_ (hg := wi hg11)
     refine qt hg11 ?_
     refine qm ?_
     refine EvO.two 68 rfl (fun hg19 => ?_) (fun hg19 => ?_)
     ·refine qm ?_ (hg := wi hg19)
      refine qm ?_ (hg := wi hg19)
      refine qr (fun p71 hp71 => ?_) (hg := wi hg19)
      refine qf (fo := 1) (fun p72 hp72 => ?_) (hg := wi hg19)
      refine qR ?_ (hg := wi hg19)
      refine qg ?_ (hg := wi hg19)
      refine qt hg19 ?_
      refine EvO.nil (leafT ?_ ?_)
      ·try dsimp only [setW, List.foldl, nth, u2, u1]
       all_goals (first | rfl | simp)
      ·try dsimp only [Fr.putO, Fr.put, Fr.clean, Fr.ev, Fr.get, nth, Go.V.look, u1, u2, v1, v2, v3, v4, v5, v6, v7, List.length, u3, u4, Nat.reduceSub, Nat.reduceAdd, List.map]
       all_goals (simp [hg11, hg19]; done)
     ·refine qs ?_ (hg := wn hg19)
      refine qs ?_ (hg := wn hg19)
      refine qs ?_ (hg := wn hg19)
      refine qs ?_ (hg := wn hg19)
      refine qs ?_ (hg := wn hg19)
      refine qs ?_ (hg := wn hg19)
      refine qu hg19 ?_
      refine EvO.nil (leafT ?_ ?_)
      ·try dsimp only [setW, List.foldl, nth, u2, u1]
       all_goals (first | rfl | simp)
      ·try dsimp only [Fr.putO, Fr.put, Fr.clean, Fr.ev, Fr.get, nth, Go.V.look, u1, u2, v1, v2, v3, v4, v5, v6, v7, List.length, u3, u4, Nat.reduceSub, Nat.reduceAdd, List.map]
       all_goals (simp [hg11, hg19]; done)
    ·refine qs ?_ (hg := wn hg11)
     refine qs ?_ (hg := wn hg11)
     refine qs ?_ (hg := wn hg11)
     refine qs ?_ (hg := wn hg11)
     refine qs ?_ (hg := wn hg11)
     refine qs ?_ (hg := wn hg11)
     refine qu hg11 ?_
     refine qm ?_
     refine qs ?_
     refine qs ?_
     refine qs ?_
     refine qs ?_
     refine qs ?_
     refine qs ?_
     refine qg ?_
     refine EvO.nil (leafT ?_ ?_)
     ·try dsimp only [setW, List.foldl, nth, u2, u1]
      all_goals (first | rfl | simp)
     ·try dsimp only [Fr.putO, Fr.put, Fr.clean, Fr.ev, Fr.get, nth, Go.V.look, u1, u2, v1, v2, v3, v4, v5, v6, v7, List.length, u3, u4, Nat.reduceSub, Nat.reduceAdd, List.map]
      all_goals (simp [hg11]; done)
   try dsimp only [setW, List.foldl, nth, u2, u1]
   try dsimp only [Fr.putO, Fr.put, Fr.clean, Fr.ev, Fr.get, nth, Go.V.look, u1, u2, v1, v2, v3, v4, v5, v6, v7, List.length, u3, u4, Nat.reduceSub, Nat.reduceAdd, List.map]
   try refine qy ?_
   repeat refine qq ?_
   refine EvC.merge (fun fr st => ∃ (y : D) (tmp : List (Nat × D)), fr = ⟨7, [x, ixF_Jd fr 1, ixF_Jd fr 2, y, .int .i64 (i : Nat), ixF_Jd fr 5, ixF_Jd fr 6], tmp⟩ ∧ Has s0.bs.length S st [.lst y 1 ((marks0 (l.take (i + 1))).map runeC)]) ?_ ?_
   ·try refine qy ?_
    repeat refine qq ?_
    refine qc (fun h2 => ?_) (fun h2 => ?_) <;> try simp only [cs] at h2
    ·simp only [Bool.and_eq_true, decide_eq_true_eq] at h2
     rw [if_pos ⟨h2.1.1, h2.1.2, h2.2⟩] at he2
     try refine qy ?_
     repeat refine qq ?_
     try generalize hK : SeqQ _ _ _ _ = K
     refine EvC.reg ?_
     refine qm ?_
     refine qm ?_
     refine qm ?_
     refine qr fun p79 hp79 => ?_
     refine qf (fo := 1) fun p80 hp80 => ?_
     refine qR ?_
     refine EvO.addS32 rfl (ev rfl) (ev rfl) (by omega) (by omega) (put_T rfl _) ?_
     refine qh (s := 1) (vs := [_]) hH fun k83 st hk83 hH => ?_
     try dsimp only [u2, u1, u3, u4, setMany, u5, u6, D.cells, Nat.reduceAdd, rangeC, runeC] at hH
     refine qP hH at1 (hH.rows at0) fun x84 st hH => ?_
     try dsimp only [u2, u1, u3, u4, setMany, u5, u6, D.cells, Nat.reduceAdd, rangeC, runeC] at hH
     refine qm ?_
     refine EvO.nil ?_
     try subst hK
     try refine qy ?_
     exact ⟨x84, _, rfl, (by rw [hm1, ← he2, ← List.append_assoc, List.map_append]; exact hH.drop 1)⟩
    ·rw [if_neg (by rintro ⟨a, b, c⟩; simp [a, b, c] at h2)] at he2
     refine EvC.skip ?_
     try refine qy ?_
     exact ⟨y, _, rfl, (by rw [hm1, ← he2, List.append_nil]; exact hH)⟩
   ·rintro fr st ⟨y, tmp, hfr, hH⟩
    rw [hfr]
    clear hfr
    try generalize ixF_Jd fr = ee
    clear fr
    try refine qy ?_
    repeat refine qq ?_
    try generalize hK : SeqQ _ _ _ _ = K
    refine EvC.reg ?_
    refine qm ?_
    refine qA ?_
    refine qm ?_
    refine EvO.nil ?_
    try subst hK
    try refine qy ?_
    exact ⟨mm - 1, by omega, ⟨i + 1, y, rfl, hH, by omega⟩⟩
 ·try refine qy ?_
  refine EvC.exit ?_
  try refine qy ?_
  have hT : l.take i = l := List.take_of_length_le (by omega)
  rw [hT] at hH
  have hm := hml l.length
  rw [List.take_length] at hm
  generalize hm0 : marks0 l = m0 at *
  have hpos : 4 ≤ m0.length := by rw [← hm0]; simp [marks0]
  try refine qy ?_
  repeat refine qq ?_
  try generalize hK : SeqQ _ _ _ _ = K
  refine EvC.reg ?_
  refine qm ?_
  refine EvO.nil ?_
  try subst hK
  try refine qy ?_
  repeat refine qq ?_
  refine EvC.block ?_
  refine EvC.loop (fun mm fr st => ∃ (i : Nat) (m : List Int), fr.clean = ⟨7, [x, ixF_Jd fr 1, ixF_Jd fr 2, y, ixF_Jd fr 4, .int .i64 (i : Nat), ixF_Jd fr 6], []⟩ ∧ Has s0.bs.length S st [.lst y 1 (m.map runeC)] ∧ (i + mm = m0.length) ∧ (m.Perm m0) ∧ (sortedBut m (i - 1) i) ∧ (1 ≤ i)) (m0.length - 1) ?_ ?_
  ·exact ⟨1, m0, rfl, hH, by omega, .refl _, by intro a b h1 h2 h3; omega, by omega⟩
  rintro mm fr st ⟨i, m, hfr, hH, hi, hp, hs, hpos⟩
  rw [hfr]
  clear hfr
  try generalize ixF_Jd fr = ee
  clear fr
  try refine qy ?_
  have hml2 : m.length = m0.length := hp.length_eq
  try refine qy ?_
  repeat refine qq ?_
  try generalize hK : SeqQ _ _ _ _ = K
  refine EvC.reg ?_
  refine qm ?_
  refine qm ?_
  refine qn ?_ (hR := hH.rows at0)
  try simp only [List.length_map, List.length_append, List.length_cons, List.length_nil, List.length_set, List.length_replicate, List.length_reverse]
  refine qg ?_
  refine EvO.nil ?_
  try subst hK
  try refine qy ?_
  repeat refine qq ?_
  refine qc (fun h1 => ?_) (fun h1 => ?_) <;> try simp only [cs] at h1
  ·refine EvC.skip ?_
   try refine qy ?_
   repeat refine qq ?_
   refine EvC.block ?_
   try refine qy ?_
   repeat refine qq ?_
   try generalize hK : SeqQ _ _ _ _ = K
   refine EvC.reg ?_
   refine qm ?_
   refine qm ?_
   refine EvO.nil ?_
   try subst hK
   try refine qy ?_
   repeat refine qq ?_
   refine EvC.block ?_
   refine EvC.loop (fun mm fr st => ∃ (k : Nat) (m : List Int), fr.clean = ⟨7, [x, ixF_Jd fr 1, ixF_Jd fr 2, y, ixF_Jd fr 4, .int .i64 (i : Nat), .int .i64 (k : Nat)], []⟩ ∧ Has s0.bs.length S st [.lst y 1 (m.map runeC)] ∧ (k = mm) ∧ (m.Perm m0) ∧ (sortedBut m i k) ∧ (k ≤ i)) (i) ?_ ?_
   ·exact ⟨i, m, rfl, hH, rfl, hp, by intro a b h1 h2 h3; exact hs a b h1 (by omega) (by omega), by omega⟩
   have hi' := hi
   rintro mm fr st ⟨k, m, hfr, hH, hk, hp, hs, hki⟩
   rw [hfr]
   clear hfr
   try generalize ixF_Jd fr = ee
   clear fr
   try refine qy ?_
   have hml2 : m.length = m0.length := hp.length_eq
   rcases k with _ | k
   ·have hg2 : decide (((0 : Nat) : Int) > 0) = false := by decide
    try refine qy ?_
    repeat refine qq ?_
    refine EvC.cutT 105 (.bool false) [] ?_ (fun ff tmp htmp => ?_)
    ·refine qm ?_
     refine qg ?_
     refine qm ?_
     refine qs ?_ (hg := wn hg2)
     refine qs ?_ (hg := wn hg2)
     refine qs ?_ (hg := wn hg2)
     refine qs ?_ (hg := wn hg2)
     refine qs ?_ (hg := wn hg2)
     refine qs ?_ (hg := wn hg2)
     refine qs ?_ (hg := wn hg2)
     refine qs ?_ (hg := wn hg2)
     refine qs ?_ (hg := wn hg2)
     refine qs ?_ (hg := wn hg2)
     refine qu hg2 ?_
     refine EvO.nil (leafT ?_ ?_)
     ·try dsimp only [setW, List.foldl, nth, u2, u1]
      all_goals (first | rfl | simp)
     ·try dsimp only [Fr.putO, Fr.put, Fr.clean, Fr.ev, Fr.get, nth, Go.V.look, u1, u2, v1, v2, v3, v4, v5, v6, v7, List.length, u3, u4, Nat.reduceSub, Nat.reduceAdd, List.map]
      all_goals (first | rfl | (simp [hg2]; done) | (simp_all; done) | (simp [hg2]; omega) | (simp_all; omega))
    try dsimp only [setW, List.foldl, nth, u2, u1]
    try dsimp only [Fr.putO, Fr.put, Fr.clean, Fr.ev, Fr.get, nth, Go.V.look, u1, u2, v1, v2, v3, v4, v5, v6, v7, List.length, u3, u4, Nat.reduceSub, Nat.reduceAdd, List.map]
    try refine qy ?_
    repeat refine qq ?_
    refine EvC.cond (v := false) (by assumption) (fun h => by cases h) (fun _ => ?_)
    try refine qy ?_
    refine EvC.exit ?_
    try refine qy ?_
    repeat refine qq ?_
    try generalize hK : SeqQ _ _ _ _ = K
    refine EvC.reg ?_
    refine qm ?_
    refine qA ?_
    refine qm ?_
    refine EvO.nil ?_
    try subst hK
    try refine qy ?_
    exact ⟨m0.length - (i + 1), by omega, ⟨i + 1, m, rfl, hH, by omega, hp, sorted_done hs (.inl rfl) _, by omega⟩⟩
   ·have hg2 : decide (((k + 1 : Nat) : Int) > 0) = true := by rw [decide_eq_true]; omega
    have hr1 : (m.map runeC)[k]? = some (runeC (m.getD k 0)) := by
     rw [List.getElem?_map, List.getElem?_eq_getElem (by omega)]; simp [List.getD_eq_getElem?_getD, List.getElem?_eq_getElem (show k < m.length by omega)]
    have hr2 : (m.map runeC)[k + 1]? = some (runeC (m.getD (k + 1) 0)) := by
     rw [List.getElem?_map, List.getElem?_eq_getElem (by omega)]; simp [List.getD_eq_getElem?_getD, List.getElem?_eq_getElem (show k + 1 < m.length by omega)]
    try refine qy ?_
    repeat refine qq ?_
    refine EvC.cutT 105 (.bool (decide (m.getD k 0 > m.getD (k + 1) 0))) [] ?_ (fun ff tmp htmp => ?_)
    ·refine qm ?_
     refine qg ?_
     refine qm ?_
     refine qm ?_ (hg := wi hg2)
     refine qm ?_ (hg := wi hg2)
     refine EvO.subZ (z := ((k : Nat) : Int)) (wantD_is rfl rfl rfl hg2) (ev rfl) (ev rfl) (by (try simp only [List.length_reverse, List.length_cons, List.length_nil, List.length_append, List.length_map, List.length_set]); rw [wrap_i64 (by omega) (by omega)] <;> omega) (put_T rfl _) ?_
     refine qi hH at0 (fun p98 hp98 => ?_) (hg := wi hg2)
     refine qo hH at0 ?_ (hg := wi hg2)
     refine qm ?_ (hg := wi hg2)
     refine qm ?_ (hg := wi hg2)
     refine qi hH at0 (fun p102 hp102 => ?_) (hg := wi hg2)
     refine qo hH at0 ?_ (hg := wi hg2)
     refine qg ?_ (hg := wi hg2)
     refine qt hg2 ?_
     refine EvO.nil (leafT ?_ ?_)
     ·try dsimp only [setW, List.foldl, nth, u2, u1]
      all_goals (first | rfl | simp)
     ·try dsimp only [Fr.putO, Fr.put, Fr.clean, Fr.ev, Fr.get, nth, Go.V.look, u1, u2, v1, v2, v3, v4, v5, v6, v7, List.length, u3, u4, Nat.reduceSub, Nat.reduceAdd, List.map]
      all_goals (first | rfl | (simp [hg2]; done) | (simp_all; done) | (simp [hg2]; omega) | (simp_all; omega))
    try dsimp only [setW, List.foldl, nth, u2, u1]
    try dsimp only [Fr.putO, Fr.put, Fr.clean, Fr.ev, Fr.get, nth, Go.V.look, u1, u2, v1, v2, v3, v4, v5, v6, v7, List.length, u3, u4, Nat.reduceSub, Nat.reduceAdd, List.map]
    try refine qy ?_
    have hsw := swap_perm (m := m) (k := k) (by omega)
    have hss := fun h => sorted_swap (m := m) (i := i) (k := k) (by omega) (by omega) hs h
    have hsd := fun (h : m.getD k 0 ≤ m.getD (k + 1) 0) => sorted_done (j := i + 1) hs (.inr (by rw [Nat.add_sub_cancel]; exact h))
    have hmap : ((m.set k (m.getD (k + 1) 0)).set (k + 1) (m.getD k 0)).map runeC = ((m.map runeC).set k (runeC (m.getD (k + 1) 0))).set (k + 1) (runeC (m.getD k 0)) := by rw [List.map_set, List.map_set]
    have hr3 : ((m.map runeC).set k (runeC (m.getD (k + 1) 0)))[k + 1]? = some (runeC (m.getD (k + 1) 0)) := by rw [List.getElem?_set_ne (by omega)]; exact hr2
    generalize m.getD k 0 = a at *
    generalize m.getD (k + 1) 0 = b at *
    try refine qy ?_
    repeat refine qq ?_
    refine qc (fun h2 => ?_) (fun h2 => ?_) <;> try simp only [cs] at h2
    ·refine EvC.skip ?_
     try refine qy ?_
     repeat refine qq ?_
     refine EvC.block ?_
     try refine qy ?_
     repeat refine qq ?_
     try generalize hK : SeqQ _ _ _ _ = K
     refine EvC.reg ?_
     refine qm ?_
     refine qm ?_
     refine EvO.subZ (z := ((k : Nat) : Int)) rfl (ev rfl) (ev rfl) (by (try simp only [List.length_reverse, List.length_cons, List.length_nil, List.length_append, List.length_map, List.length_set]); rw [wrap_i64 (by omega) (by omega)] <;> omega) (put_T rfl _) ?_
     refine qm ?_
     refine qm ?_
     refine qm ?_
     refine qm ?_
     refine qi hH at0 fun p115 hp115 => ?_
     refine qo hH at0 ?_
     refine qm ?_
     refine qm ?_
     refine EvO.subZ (z := ((k : Nat) : Int)) rfl (ev rfl) (ev rfl) (by (try simp only [List.length_reverse, List.length_cons, List.length_nil, List.length_append, List.length_map, List.length_set]); rw [wrap_i64 (by omega) (by omega)] <;> omega) (put_T rfl _) ?_
     refine qi hH at0 fun p120 hp120 => ?_
     refine qo hH at0 ?_
     refine qi hH at0 fun p122 hp122 => ?_
     refine EvO.ostore hH rfl (ev rfl) (ev rfl) (by assumption) rfl rfl (by exact at0) (by assumption) (Nat.le_of_ble_eq_true rfl) (by exact .inl hF) (fun st hH => ?_)
     try dsimp only [u2, u1, u3, u4, setMany, u5, u6, D.cells, Nat.reduceAdd, rangeC, runeC] at hH
     refine qi hH at0 fun p123 hp123 => ?_
     refine EvO.ostore hH rfl (ev rfl) (ev rfl) (by assumption) rfl rfl (by exact at0) (by assumption) (Nat.le_of_ble_eq_true rfl) (by exact .inl hF) (fun st hH => ?_)
     try dsimp only [u2, u1, u3, u4, setMany, u5, u6, D.cells, Nat.reduceAdd, rangeC, runeC] at hH
     refine EvO.nil ?_
     try subst hK
     try refine qy ?_
     repeat refine qq ?_
     try generalize hK : SeqQ _ _ _ _ = K
     refine EvC.reg ?_
     refine qm ?_
     refine EvO.subZ (z := ((k : Nat) : Int)) rfl (ev rfl) (ev rfl) (by (try simp only [List.length_reverse, List.length_cons, List.length_nil, List.length_append, List.length_map, List.length_set]); rw [wrap_i64 (by omega) (by omega)] <;> omega) (put_T rfl _) ?_
     refine qm ?_
     refine EvO.nil ?_
     try subst hK
     try refine qy ?_
     exact ⟨k, by omega, ⟨k, (m.set k b).set (k + 1) a, rfl, (by rw [hmap]; exact hH), rfl, hsw.trans hp, hss h2, by omega⟩⟩
    ·try refine qy ?_
     refine EvC.exit ?_
     try refine qy ?_
     repeat refine qq ?_
     try generalize hK : SeqQ _ _ _ _ = K
     refine EvC.reg ?_
     refine qm ?_
     refine qA ?_
     refine qm ?_
     refine EvO.nil ?_
     try subst hK
     try refine qy ?_
     exact ⟨m0.length - (i + 1), by omega, ⟨i + 1, m, rfl, hH, by omega, hp, hsd (by omega), by omega⟩⟩
  ·try refine qy ?_
   refine EvC.exit ?_
   try refine qy ?_
   repeat refine qq ?_
   try generalize hK : SeqQ _ _ _ _ = K
   refine EvC.reg ?_
   refine qm ?_
   refine qm ?_
   refine EvO.nil ?_
   try subst hK
   try refine qy ?_
   refine EvC.ret ⟨fun i h => (by cases h), _, _, rfl, leave_ro (by simp) hSb hH ((hH.freeze at0 (rune_plain _) (n := 15) (by decide))), ?_⟩
   exact ⟨m, rfl, hm0 ▸ hp, sorted_pair (i := i - 1) (by intro a b h1 h2 h3; exact hs a b h1 h2 (by omega)) (by omega)⟩
end Go.Proofs.Ytbdilgkfnacahaa
