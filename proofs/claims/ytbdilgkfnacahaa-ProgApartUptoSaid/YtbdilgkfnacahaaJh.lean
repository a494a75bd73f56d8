/-
 What a rule reaches: the search, both texts.
-/
import Derived.Test.YtbdilgkfnacahaaJf
namespace Go.Proofs.Ytbdilgkfnacahaa
open Go.V Go
set_option maxRecDepth 100000
set_option maxHeartbeats 4000000
set_option linter.unusedSimpArgs false
set_option linter.unusedVariables false

/-- what a frame holds at a slot -/
def ixF_Jh (fr : Go.V.Fr) (k : Nat) : Go.V.D := Go.V.nth .junk fr.loc k

def boolC (b : Bool) : List D := [.bool b]
theorem bool_get {l : List Bool} {i : Nat} {q : Bool} (h : l[i]? = some q) : (l.map boolC)[i]? = some (boolC q) := by rw [List.getElem?_map, h]; rfl
theorem bool_plain (l : List Bool) : ∀ e ∈ l.map boolC, ∀ d ∈ e, plainC d = true := by
 intro e he d hd
 obtain ⟨x, _, rfl⟩ := List.mem_map.1 he
 simp only [boolC, List.mem_cons, List.not_mem_nil, or_false] at hd
 subst hd; rfl
theorem bool_len (l : List Bool) : ∀ e ∈ l.map boolC, e.length = 1 := by
 intro e he; obtain ⟨x, _, rfl⟩ := List.mem_map.1 he; rfl
def boolsV (l : List Bool) : D := .sl ((l.map boolC).map (elD 1))
theorem boolsV_sl (l : List Bool) : SlD (boolsV l) 1 (l.map boolC) := SlD.frozen (bool_len l) (bool_plain l)
theorem int_plain (l : List Int) : ∀ e ∈ l.map intC, ∀ d ∈ e, plainC d = true := by
 intro e he d hd
 obtain ⟨x, _, rfl⟩ := List.mem_map.1 he
 simp only [intC, List.mem_cons, List.not_mem_nil, or_false] at hd
 subst hd; rfl
theorem int_len (l : List Int) : ∀ e ∈ l.map intC, e.length = 1 := by
 intro e he; obtain ⟨x, _, rfl⟩ := List.mem_map.1 he; rfl
def intsV (l : List Int) : D := .sl ((l.map intC).map (elD 1))
theorem intsV_sl (l : List Int) : SlD (intsV l) 1 (l.map intC) := SlD.frozen (int_len l) (int_plain l)

/-- where an instruction may go on -/
def nextS (pc : Nat) (i : PIns) : List Int :=
 if i.op = 2 then [i.x, i.y] else if i.op = 3 then [i.x] else if i.op = 7 then [] else [((pc + 1 : Nat) : Int)]

def closedS (code : List PIns) : Prop := ∀ pc i, code[pc]? = some i → ∀ v ∈ nextS pc i, 0 ≤ v ∧ v < code.length

theorem shaped_next {n ns pc : Nat} {i : PIns} (h : shapedS n ns pc i = true) : ∀ v ∈ nextS pc i, 0 ≤ v ∧ v < n := by
 intro v hv
 have inS_iff : ∀ a b : Int, inS a b = true → 0 ≤ a ∧ a < b := fun a b h => by
  unfold inS at h; simp only [Bool.and_eq_true, decide_eq_true_eq] at h; exact ⟨h.1, h.2⟩
 unfold shapedS at h
 unfold nextS at hv
 split at h
 ·rename_i h1
  rw [if_neg (by omega), if_neg (by omega), if_neg (by omega)] at hv
  simp only [Bool.and_eq_true, decide_eq_true_eq] at h
  simp only [List.mem_cons, List.not_mem_nil, or_false] at hv
  subst hv; omega
 ·simp only [Bool.and_eq_true] at h
  obtain ⟨_, h⟩ := h
  split at h
  ·rename_i h2
   rw [if_pos h2] at hv
   simp only [Bool.and_eq_true] at h
   simp only [List.mem_cons, List.not_mem_nil, or_false] at hv
   rcases hv with rfl | rfl
   ·exact inS_iff _ _ h.1
   ·exact inS_iff _ _ h.2
  ·rename_i h2
   rw [if_neg h2] at hv
   simp only [Bool.and_eq_true] at h
   obtain ⟨_, h⟩ := h
   split at h
   ·rename_i h3
    rw [if_pos h3] at hv
    simp only [List.mem_cons, List.not_mem_nil, or_false] at hv
    subst hv; exact inS_iff _ _ h
   ·rename_i h3
    rw [if_neg h3] at hv
    split at h
    ·rename_i h4
     rw [if_neg (by omega)] at hv
     simp only [Bool.and_eq_true, decide_eq_true_eq] at h
     simp only [List.mem_cons, List.not_mem_nil, or_false] at hv
     subst hv; omega
    ·split at h
     ·rename_i h5
      rw [if_neg (by omega)] at hv
      simp only [Bool.and_eq_true, decide_eq_true_eq] at h
      simp only [List.mem_cons, List.not_mem_nil, or_false] at hv
      subst hv; omega
     ·split at h
      ·rename_i h7
       rw [if_pos h7] at hv; cases hv
      ·cases h

def dfs (code : List PIns) : Nat → List Bool → List Int → List Bool
 | 0, seen, _ => seen
 | _ + 1, seen, [] => seen
 | f + 1, seen, v :: stk => match seen[v.toNat]? with
  | some false => match code[v.toNat]? with
   | some i => dfs code f (seen.set v.toNat true) ((nextS v.toNat i).reverse ++ stk)
   | none => seen
  | _ => dfs code f seen stk

def reachS (code : List PIns) (start : Int) : List Bool := dfs code (3 * code.length + 1) (List.replicate code.length false) [start]

theorem dfs_len (code : List PIns) : ∀ (f : Nat) (seen : List Bool) (stk : List Int), (dfs code f seen stk).length = seen.length
 | 0, _, _ => rfl
 | _ + 1, _, [] => rfl
 | f + 1, seen, v :: stk => by
  unfold dfs
  split
  ·split
   ·rw [dfs_len code f]; simp
   ·rfl
  ·exact dfs_len code f seen stk
theorem reachS_len (code : List PIns) (s : Int) : (reachS code s).length = code.length := by
 unfold reachS; rw [dfs_len]; simp

theorem count_set {seen : List Bool} {k : Nat} (h : seen[k]? = some false) : (seen.set k true).count false + 1 = seen.count false := by
 induction seen generalizing k with
 | nil => simp at h
 | cons b l ih =>
  cases k with
  | zero => simp at h; subst h; simp
  | succ k =>
   have := ih (k := k) (by simpa using h)
   simp only [List.set_cons_succ, List.count_cons]
   omega

theorem next_len (pc : Nat) (i : PIns) : (nextS pc i).length ≤ 2 := by
 unfold nextS; split
 ·simp
 ·split
  ·simp
  ·split <;> simp

theorem stk_last (v : Int) (r : List Int) : ((v :: r).reverse.map intC)[r.length]? = some (intC v) := by
 rw [List.getElem?_map, List.reverse_cons, List.getElem?_append_right (by simp)]; simp
theorem stk_pop (v : Int) (r : List Int) : (((v :: r).reverse.map intC).take r.length).drop 0 = r.reverse.map intC := by
 rw [List.reverse_cons, List.map_append, List.drop_zero, List.take_left' (by simp)]

theorem from_ev {s0 : St} {cd : D} {code : List PIns} {start : Int} (hcd : SlD cd 4 (code.map insC)) (hlen : code.length ≤ 1048576) (hcl : closedS code) (hst : 0 ≤ start ∧ start < code.length) : Ev pv 51 [cd, .int .i64 start] s0 (boolsV (reachS code start)) s0 := by
 refine Ev.mk1 rfl fi51 rfl rfl rfl ?_
 dsimp only [List.cons_append, List.nil_append, List.length, Nat.reduceSub, Nat.reduceAdd, List.replicate_succ, List.replicate_zero]
 have hSb : (enterSt .ro s0).bs = s0.bs := rfl
 have hF : (enterSt .ro s0).flr ≤ s0.bs.length := Nat.le_refl _
 have hH : Has s0.bs.length (enterSt .ro s0) (enterSt .ro s0) [] := Has.start (Nat.le_refl _) (Nat.le_refl _)
 generalize enterSt .ro s0 = S at *
 have hc := hcd.arg s0.bs.length S
 try refine qy ?_
 repeat refine qq ?_
 try generalize hK : SeqQ _ _ _ _ = K
 refine EvC.reg ?_
 refine qm ?_
 refine EvO.nil ?_
 try subst hK
 try refine qy ?_
 repeat refine qq ?_
 try generalize hK : SeqQ _ _ _ _ = K
 refine EvC.reg ?_
 refine qm ?_
 refine qn ?_
 try simp only [List.length_map, List.length_append, List.length_cons, List.length_nil, List.length_set, List.length_replicate, List.length_reverse]
 refine EvO.hmake (s := 1) hH rfl rfl rfl rfl rfl rfl rfl rfl (Nat.le_of_ble_eq_true rfl) (by omega) (fun _ => by dsimp only [Fr.put, List.set_cons_succ, List.set_cons_zero] <;> rfl) (fun k11 st hk11 hH => ?_)
 try dsimp only [u2, u1, u3, u4, setMany, u5, u6, D.cells, Nat.reduceAdd, insC, intC, boolC] at hH
 refine qm ?_
 refine EvO.nil ?_
 try subst hK
 try refine qy ?_
 repeat refine qq ?_
 try generalize hK : SeqQ _ _ _ _ = K
 refine EvC.reg ?_
 refine qm ?_
 refine qh (s := 1) (vs := [_]) hH fun k13 st hk13 hH => ?_
 try dsimp only [u2, u1, u3, u4, setMany, u5, u6, D.cells, Nat.reduceAdd, insC, intC, boolC] at hH
 refine qm ?_
 refine EvO.nil ?_
 try subst hK
 try refine qy ?_
 repeat refine qq ?_
 refine EvC.block ?_
 refine EvC.loop (fun mm fr st => ∃ (y z : D) (seen : List Bool) (stk : List Int), fr.clean = ⟨41, [cd, ixF_Jh fr 1, ixF_Jh fr 2, ixF_Jh fr 3, .nul, y, z, ixF_Jh fr 7, ixF_Jh fr 8, ixF_Jh fr 9, ixF_Jh fr 10, ixF_Jh fr 11, ixF_Jh fr 12, ixF_Jh fr 13, ixF_Jh fr 14, ixF_Jh fr 15, ixF_Jh fr 16, ixF_Jh fr 17, ixF_Jh fr 18, ixF_Jh fr 19, ixF_Jh fr 20, ixF_Jh fr 21, ixF_Jh fr 22, ixF_Jh fr 23, ixF_Jh fr 24, ixF_Jh fr 25, ixF_Jh fr 26, ixF_Jh fr 27, ixF_Jh fr 28, ixF_Jh fr 29, ixF_Jh fr 30, ixF_Jh fr 31, ixF_Jh fr 32, ixF_Jh fr 33, ixF_Jh fr 34, ixF_Jh fr 35, ixF_Jh fr 36, ixF_Jh fr 37, ixF_Jh fr 38, ixF_Jh fr 39, ixF_Jh fr 40], []⟩ ∧ Has s0.bs.length S st [.lst z 1 (stk.reverse.map intC), .lst y 1 (seen.map boolC)] ∧ (dfs code mm seen stk = reachS code start) ∧ (3 * seen.count false + stk.length ≤ mm) ∧ (seen.length = code.length) ∧ (∀ v ∈ stk, 0 ≤ v ∧ v < (code.length : Int)) ∧ (mm ≤ 3 * code.length + 1)) (3 * code.length + 1) ?_ ?_
 ·exact ⟨_, _, List.replicate code.length false, [start], rfl, (by rw [List.map_replicate]; exact hH), rfl, by simp, by simp, by simpa using hst, by omega⟩
 rintro mm fr st ⟨y, z, seen, stk, hfr, hH, hd, hm, hsl, hsk, hmm⟩
 rw [hfr]
 clear hfr
 try generalize ixF_Jh fr = ee
 clear fr
 try refine qy ?_
 rcases stk with _ | ⟨v, stk⟩
 ·try refine qy ?_
  repeat refine qq ?_
  try generalize hK : SeqQ _ _ _ _ = K
  refine EvC.reg ?_
  refine qm ?_
  refine qn ?_ (hR := hH.rows at0)
  try simp only [List.length_map, List.length_append, List.length_cons, List.length_nil, List.length_set, List.length_replicate, List.length_reverse]
  refine qg ?_
  refine EvO.nil ?_
  try subst hK
  try refine qy ?_
  repeat refine qq ?_
  refine EvC.cond (v := false) (by dsimp only [Fr.ev, Fr.get, nth, Go.V.look]; rfl) (fun h => by cases h) (fun _ => ?_)
  try refine qy ?_
  refine EvC.exit ?_
  try refine qy ?_
  repeat refine qq ?_
  try generalize hK : SeqQ _ _ _ _ = K
  refine EvC.reg ?_
  refine qm ?_
  refine qm ?_
  refine EvO.nil ?_
  try subst hK
  try refine qy ?_
  have hfin : seen = reachS code start := by rw [← hd]; cases mm <;> rfl
  rw [← hfin]
  refine EvC.ret ⟨fun i h => (by cases h), _, rfl, leave_ro (by simp) hSb hH ?_⟩
  exact hH.freeze at1 (bool_plain _) (n := 15) (by decide)
 ·have hv := hsk v (List.mem_cons_self ..)
  obtain ⟨k, rfl⟩ := Int.eq_ofNat_of_zero_le hv.1
  have hk : k < code.length := by omega
  simp only [List.length_cons] at hm
  obtain ⟨mm, rfl⟩ : ∃ m', mm = m' + 1 := ⟨mm - 1, by omega⟩
  obtain ⟨b, hb⟩ : ∃ b, seen[k]? = some b := ⟨seen[k]'(by omega), List.getElem?_eq_getElem _⟩
  obtain ⟨i, hi⟩ : ∃ i, code[k]? = some i := ⟨code[k]'(by omega), List.getElem?_eq_getElem _⟩
  have hr1 := stk_last (k : Int) stk
  have hr2 := bool_get hb
  have hr3 := ins_get hi
  try refine qy ?_
  repeat refine qq ?_
  try generalize hK : SeqQ _ _ _ _ = K
  refine EvC.reg ?_
  refine qm ?_
  refine qn ?_ (hR := hH.rows at0)
  try simp only [List.length_map, List.length_append, List.length_cons, List.length_nil, List.length_set, List.length_replicate, List.length_reverse]
  refine qg ?_
  refine EvO.nil ?_
  try subst hK
  try refine qy ?_
  repeat refine qq ?_
  refine EvC.cond (v := true) (by dsimp only [Fr.ev, Fr.get, nth, Go.V.look]; simp) (fun _ => ?_) (fun h => by cases h)
  try refine qy ?_
  refine EvC.skip ?_
  try refine qy ?_
  repeat refine qq ?_
  refine EvC.block ?_
  try refine qy ?_
  repeat refine qq ?_
  try generalize hK : SeqQ _ _ _ _ = K
  refine EvC.reg ?_
  refine qm ?_
  refine qm ?_
  refine qn ?_ (hR := hH.rows at0)
  try simp only [List.length_map, List.length_append, List.length_cons, List.length_nil, List.length_set, List.length_replicate, List.length_reverse]
  refine EvO.subZ (z := ((stk.length : Nat) : Int)) rfl (ev rfl) (ev rfl) (by (try simp only [List.length_reverse, List.length_cons, List.length_nil, List.length_append, List.length_map, List.length_set]); rw [wrap_i64 (by omega) (by omega)] <;> omega) (by dsimp only [Fr.put, List.set_cons_succ, List.set_cons_zero] <;> rfl) ?_
  refine qi hH at0 fun p21 hp21 => ?_
  refine qo hH at0 ?_
  refine qm ?_
  refine EvO.nil ?_
  try subst hK
  try refine qy ?_
  repeat refine qq ?_
  try generalize hK : SeqQ _ _ _ _ = K
  refine EvC.reg ?_
  refine qm ?_
  refine qm ?_
  refine qn ?_ (hR := hH.rows at0)
  try simp only [List.length_map, List.length_append, List.length_cons, List.length_nil, List.length_set, List.length_replicate, List.length_reverse]
  refine EvO.subZ (z := ((stk.length : Nat) : Int)) rfl (ev rfl) (ev rfl) (by (try simp only [List.length_reverse, List.length_cons, List.length_nil, List.length_append, List.length_map, List.length_set]); rw [wrap_i64 (by omega) (by omega)] <;> omega) (by dsimp only [Fr.put, List.set_cons_succ, List.set_cons_zero] <;> rfl) ?_
  refine EvO.oslice hH rfl (ev rfl) (by exact at0) rfl rfl (bounds_to (by simp only [List.length_map, List.length_reverse, List.length_cons, List.length_append, List.length_nil, List.length_take, List.length_drop, List.length_set, List.length_replicate]; omega)) ⟨(by omega), (by simp only [List.length_map, List.length_reverse, List.length_cons, List.length_append, List.length_nil, List.length_take, List.length_drop, List.length_set, List.length_replicate]; omega)⟩ (fun _ => by dsimp only [Fr.put, List.set_cons_succ, List.set_cons_zero] <;> rfl) (fun y27 hH => ?_)
  refine qm ?_
  refine EvO.nil ?_
  try subst hK
  try refine qy ?_
  dsimp only [List.set_cons_zero] at hH
  rw [stk_pop] at hH
  have hst : ∀ w ∈ stk, 0 ≤ w ∧ w < (code.length : Int) := fun w hw => hsk w (List.mem_cons_of_mem _ hw)
  try refine qy ?_
  repeat refine qq ?_
  try generalize hK : SeqQ _ _ _ _ = K
  refine EvC.reg ?_
  refine qm ?_
  refine qm ?_
  refine qi hH at1 fun p30 hp30 => ?_
  refine qo hH at1 ?_
  refine EvO.nil ?_
  try subst hK
  try refine qy ?_
  cases b with
  | true =>
   try refine qy ?_
   repeat refine qq ?_
   refine EvC.cond (v := true) (by rfl) (fun _ => ?_) (fun h => by cases h)
   try refine qy ?_
   refine EvC.exit ?_
   try refine qy ?_
   simp only [dfs, Int.toNat_natCast, hb] at hd
   exact ⟨mm, by omega, ⟨_, _, seen, stk, rfl, hH, hd, by omega, hsl, hst, by omega⟩⟩
  | false =>
   have hcnt := count_set hb
   have hset : (seen.set k true).map boolC = (seen.map boolC).set k [.bool true] := by rw [List.map_set]; rfl
   simp only [dfs, Int.toNat_natCast, hb, hi] at hd
   have hnx := hcl k i hi
   have hnl := next_len k i
   have hsk2 : ∀ w ∈ (nextS k i).reverse ++ stk, 0 ≤ w ∧ w < (code.length : Int) := fun w hw => by
    rcases List.mem_append.1 hw with hw | hw
    ·exact hnx w (List.mem_reverse.1 hw)
    ·exact hst w hw
   have hrev : (((nextS k i).reverse ++ stk).reverse).map intC = stk.reverse.map intC ++ (nextS k i).map intC := by
    rw [List.reverse_append, List.reverse_reverse, List.map_append]
   try refine qy ?_
   repeat refine qq ?_
   refine EvC.cond (v := false) (by rfl) (fun h => by cases h) (fun _ => ?_)
   try refine qy ?_
   refine EvC.skip ?_
   try refine qy ?_
   repeat refine qq ?_
   try generalize hK : SeqQ _ _ _ _ = K
   refine EvC.reg ?_
   refine qm ?_
   refine qm ?_
   refine qi hH at1 fun p34 hp34 => ?_
   refine EvO.ostore hH rfl (ev rfl) (ev rfl) (by assumption) rfl rfl (by exact at1) (by assumption) (Nat.le_of_ble_eq_true rfl) (by exact .inl hF) (fun st hH => ?_)
   try dsimp only [u2, u1, u3, u4, setMany, u5, u6, D.cells, Nat.reduceAdd, insC, intC, boolC] at hH
   refine EvO.nil ?_
   try subst hK
   try refine qy ?_
   repeat refine qq ?_
   try generalize hK : SeqQ _ _ _ _ = K
   refine EvC.reg ?_
   refine qm ?_
   refine qm ?_
   refine qr fun p37 hp37 => ?_
   refine EvO.rloadS rfl (ev rfl) (by assumption) rfl (by dsimp only [Fr.put, List.set_cons_succ, List.set_cons_zero] <;> rfl) ?_
   refine qa hH fun k8 st hk8 hH => ?_
   try dsimp only [u2, u1, u3, u4, setMany, u5, u6, D.cells, Nat.reduceAdd, insC, intC, boolC] at hH
   refine qS hH at0 fun st hH => ?_
   try dsimp only [u2, u1, u3, u4, setMany, u5, u6, D.cells, Nat.reduceAdd, insC, intC, boolC] at hH
   refine EvO.nil ?_
   try subst hK
   try refine qy ?_
   repeat refine qq ?_
   try generalize hK : SeqQ _ _ _ _ = K
   refine EvC.reg ?_
   refine qp (o := 0) ?_
   refine ql hH at0 ?_
   refine EvO.nil ?_
   try subst hK
   try refine qy ?_
   repeat refine qq ?_
   refine EvC.merge (fun fr st => ∃ (z : D) (tmp : List (Nat × D)), fr = ⟨41, [cd, ixF_Jh fr 1, ixF_Jh fr 2, ixF_Jh fr 3, .nul, y, z, ixF_Jh fr 7, ixF_Jh fr 8, ixF_Jh fr 9, ixF_Jh fr 10, ixF_Jh fr 11, ixF_Jh fr 12, ixF_Jh fr 13, ixF_Jh fr 14, ixF_Jh fr 15, ixF_Jh fr 16, ixF_Jh fr 17, ixF_Jh fr 18, ixF_Jh fr 19, ixF_Jh fr 20, ixF_Jh fr 21, ixF_Jh fr 22, ixF_Jh fr 23, ixF_Jh fr 24, ixF_Jh fr 25, ixF_Jh fr 26, ixF_Jh fr 27, ixF_Jh fr 28, ixF_Jh fr 29, ixF_Jh fr 30, ixF_Jh fr 31, ixF_Jh fr 32, ixF_Jh fr 33, ixF_Jh fr 34, ixF_Jh fr 35, ixF_Jh fr 36, ixF_Jh fr 37, ixF_Jh fr 38, ixF_Jh fr 39, ixF_Jh fr 40], tmp⟩ ∧ Has s0.bs.length S st [.lst z 1 (stk.reverse.map intC ++ (nextS k i).map intC), .lst y 1 ((seen.map boolC).set k [.bool true])]) ?_ ?_
   ·try refine qy ?_
    repeat refine qq ?_
    refine EvC.block ?_
    try refine qy ?_
    repeat refine qq ?_
    try generalize hK : SeqQ _ _ _ _ = K
    refine EvC.reg ?_
    refine qg ?_
    refine qm ?_
    refine EvO.nil ?_
    try subst hK
    try refine qy ?_
    repeat refine qq ?_
    refine qc (fun h2 => ?_) (fun h2 => ?_) <;> try simp only [cs] at h2
    ·have : nextS k i = [i.x, i.y] := by unfold nextS; rw [if_pos h2]
     rw [this]
     try refine qy ?_
     repeat refine qq ?_
     try generalize hK : SeqQ _ _ _ _ = K
     refine EvC.reg ?_
     refine qm ?_
     refine qp (o := 1) ?_
     refine ql hH at0 ?_
     refine qp (o := 2) ?_
     refine ql hH at0 ?_
     refine qh (s := 1) (vs := [_, _]) hH fun k53 st hk53 hH => ?_
     try dsimp only [u2, u1, u3, u4, setMany, u5, u6, D.cells, Nat.reduceAdd, insC, intC, boolC] at hH
     refine qP hH at2 (hH.rows at0) fun x54 st hH => ?_
     try dsimp only [u2, u1, u3, u4, setMany, u5, u6, D.cells, Nat.reduceAdd, insC, intC, boolC] at hH
     refine qm ?_
     refine EvO.nil ?_
     try subst hK
     try refine qy ?_
     exact ⟨_, _, rfl, (by have := hH.drop 2; exact this)⟩
    ·try refine qy ?_
     repeat refine qq ?_
     try generalize hK : SeqQ _ _ _ _ = K
     refine EvC.reg ?_
     refine qg ?_
     refine qm ?_
     refine EvO.nil ?_
     try subst hK
     try refine qy ?_
     repeat refine qq ?_
     refine qc (fun h3 => ?_) (fun h3 => ?_) <;> try simp only [cs] at h3
     ·have : nextS k i = [i.x] := by unfold nextS; rw [if_neg h2, if_pos h3]
      rw [this]
      try refine qy ?_
      repeat refine qq ?_
      try generalize hK : SeqQ _ _ _ _ = K
      refine EvC.reg ?_
      refine qm ?_
      refine qp (o := 1) ?_
      refine ql hH at0 ?_
      refine qh (s := 1) (vs := [_]) hH fun k60 st hk60 hH => ?_
      try dsimp only [u2, u1, u3, u4, setMany, u5, u6, D.cells, Nat.reduceAdd, insC, intC, boolC] at hH
      refine qP hH at2 (hH.rows at0) fun x61 st hH => ?_
      try dsimp only [u2, u1, u3, u4, setMany, u5, u6, D.cells, Nat.reduceAdd, insC, intC, boolC] at hH
      refine qm ?_
      refine EvO.nil ?_
      try subst hK
      try refine qy ?_
      exact ⟨_, _, rfl, (by have := hH.drop 2; exact this)⟩
     ·try refine qy ?_
      repeat refine qq ?_
      try generalize hK : SeqQ _ _ _ _ = K
      refine EvC.reg ?_
      refine qg ?_
      refine qm ?_
      refine EvO.nil ?_
      try subst hK
      try refine qy ?_
      repeat refine qq ?_
      refine qc (fun h7 => ?_) (fun h7 => ?_) <;> try simp only [cs] at h7
      ·have : nextS k i = [] := by unfold nextS; rw [if_neg h2, if_neg h3, if_pos h7]
       rw [this, List.map_nil, List.append_nil]
       refine EvC.skip ?_
       try refine qy ?_
       exact ⟨_, _, rfl, (by have := hH.drop 1; exact this)⟩
      ·have : nextS k i = [((k + 1 : Nat) : Int)] := by unfold nextS; rw [if_neg h2, if_neg h3, if_neg h7]
       rw [this]
       try refine qy ?_
       repeat refine qq ?_
       try generalize hK : SeqQ _ _ _ _ = K
       refine EvC.reg ?_
       refine qm ?_
       refine qm ?_
       refine qA ?_
       refine qh (s := 1) (vs := [_]) hH fun k44 st hk44 hH => ?_
       try dsimp only [u2, u1, u3, u4, setMany, u5, u6, D.cells, Nat.reduceAdd, insC, intC, boolC] at hH
       refine qP hH at2 (hH.rows at0) fun x45 st hH => ?_
       try dsimp only [u2, u1, u3, u4, setMany, u5, u6, D.cells, Nat.reduceAdd, insC, intC, boolC] at hH
       refine qm ?_
       refine EvO.nil ?_
       try subst hK
       try refine qy ?_
       exact ⟨_, _, rfl, (by have := hH.drop 2; exact this)⟩
   ·rintro fr st ⟨z, tmp, hfr, hH⟩
    rw [hfr]
    clear hfr
    try generalize ixF_Jh fr = ee
    clear fr
    try refine qy ?_
    exact ⟨mm, by omega, ⟨y, z, seen.set k true, (nextS k i).reverse ++ stk, rfl, (by rw [hrev, hset]; exact hH), hd, by simp only [List.length_append, List.length_reverse]; omega, by simp only [List.length_set]; exact hsl, hsk2, by omega⟩⟩
end Go.Proofs.Ytbdilgkfnacahaa
