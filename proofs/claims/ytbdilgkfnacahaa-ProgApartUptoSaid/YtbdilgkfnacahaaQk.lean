/-
 How many instructions a pattern has, counted by the statement. What Compile makes is a program.
-/
import Derived.Test.YtbdilgkfnacahaaQj
namespace Go.Proofs.Ytbdilgkfnacahaa
open Go.V Go
set_option maxRecDepth 100000
set_option maxHeartbeats 4000000
set_option linter.unusedSimpArgs false
set_option linter.unusedVariables false

/-- what a frame holds at a slot -/
def ixF_Qk (fr : Go.V.Fr) (k : Nat) : Go.V.D := Go.V.nth .junk fr.loc k

theorem cap_gen {n : Nod} {k s s' c : Nat} (hc : 1 ≤ c) (h : s' = s ∨ (c ≤ s' ∧ c ≤ s)) : min (nodSz n s' k) c = min (nodSz n s k) c := by
 rcases h with rfl | ⟨h1, h2⟩
 ·rfl
 ·unfold nodSz
  split
  ·rfl
  ·split
   ·omega
   ·split
    ·omega
    ·split
     ·split
      ·omega
      ·by_cases h0 : n.mn.toNat = 0
       ·rw [h0]
        by_cases hd : n.mx.toNat - 0 = 0
        ·rw [hd]; simp
        ·have h3 := Nat.le_mul_of_pos_left (s' + 1) (show 0 < n.mx.toNat - 0 by omega)
         have h4 := Nat.le_mul_of_pos_left (s + 1) (show 0 < n.mx.toNat - 0 by omega)
         omega
       ·have h3 := Nat.le_mul_of_pos_left s' (show 0 < n.mn.toNat by omega)
        have h4 := Nat.le_mul_of_pos_left s (show 0 < n.mn.toNat by omega)
        omega
     ·omega

theorem compS_ok : ∀ (ls : List (List Nod)) (r : Nat) (c : List PIns) (s : List Int), (∀ l ∈ ls, ∀ n ∈ l, n.rs.length ≤ 1048576) → (∀ i ∈ c, InsV i) → c.length ≤ 400 → s.length ≤ r → (∀ i ∈ (compS ls r c s).code, InsV i) ∧ (compS ls r c s).code.length ≤ 400 ∧ (compS ls r c s).starts.length ≤ r + ls.length
 | [], r, c, s, _, h1, h2, h3 => by rw [compS_nil]; exact ⟨h1, h2, by simpa using h3⟩
 | l :: ls, r, c, s, h0, h1, h2, h3 => by
  have hem : ∀ e w : Int, (∀ i ∈ (CompR.mk [] [] e w).code, InsV i) ∧ (CompR.mk [] [] e w).code.length ≤ 400 ∧ (CompR.mk [] [] e w).starts.length ≤ r + (l :: ls).length := fun e w => ⟨fun i hi => (by cases hi), by simp, by simp⟩
  rw [compS]
  split
  ·exact hem _ _
  ·rename_i hr
   rw [Bool.not_eq_false] at hr
   split
   ·exact hem _ _
   ·rename_i hb
    obtain ⟨t1, t2⟩ := tree_is hr
    obtain ⟨h4, h5, h6⟩ := compS_ok ls (r + 1) (c ++ ruleC (treeN l) c.length r) (s ++ [((c.length : Nat) : Int)]) (fun l' hl' => h0 l' (List.mem_cons_of_mem _ hl')) (fun i hi => by
     rcases List.mem_append.1 hi with hi | hi
     ·exact h1 i hi
     ·exact ruleC_v (by rw [t2]; exact h0 l (List.mem_cons_self ..)) i hi) (by rw [List.length_append, ruleC_len t1]; omega) (by rw [List.length_append]; simp only [List.length_cons, List.length_nil]; omega)
    exact ⟨h4, h5, by simp only [List.length_cons]; omega⟩

theorem compileS_ok {ls : List (List Nod)} (h : ∀ l ∈ ls, ∀ n ∈ l, n.rs.length ≤ 1048576) : (pgV (compileS ls).code (compileS ls).starts).ok ∧ (compileS ls).code.length ≤ 400 := by
 unfold compileS
 split
 ·exact ⟨pgV_ok (fun i hi => (by cases hi)) (by simp) (by simp), by simp⟩
 ·obtain ⟨h1, h2, h3⟩ := compS_ok ls 0 [] [] h (fun i hi => by cases hi) (by simp) (by simp)
  exact ⟨pgV_ok h1 (by omega) (by omega), h2⟩

theorem sized_ev {x : Nl} (hx : x.ok) : ∀ (m : Nat) (t : Tr), t.flat.length ≤ m → t.ok → ∀ {s0 : St} {at_ : Nat}, Seg x.l at_ t.flat → Ev pv 22 [x.d, .int .i64 (at_ : Nat)] s0 (.tup [.int .i64 ((min t.sz 1000 : Nat) : Int), .int .i64 ((at_ + t.flat.length : Nat) : Int)]) s0 := by
 intro m
 induction m with
 | zero => intro t h; have := t.flat_pos; omega
 | succ m ih =>
  rintro ⟨n, ks⟩ hm hok s0 at_ hseg
  simp only [Tr.ok] at hok
  obtain ⟨hno, hks⟩ := hok
  simp only [Tr.flat, List.length_cons] at hm
  have hle := hseg.le (by simp [Tr.flat])
  simp only [Tr.flat] at hseg hle
  simp only [List.length_cons] at hle
  have hn := hseg.head
  have hseg := hseg.tail
  have hnn := hx.i n (List.mem_of_getElem? hn)
  have hr1 := nod_get hn
  have hkd := hno.1
  have hfl := Trs.len_le ks
  have hxl := hx.nl
  simp only [Tr.sz, Tr.flat, List.length_cons]
  refine Ev.mk1 rfl fi22 rfl rfl rfl ?_
  dsimp only [List.cons_append, List.nil_append, List.length, Nat.reduceSub, Nat.reduceAdd, List.replicate_succ, List.replicate_zero]
  have hSb : (enterSt .ro s0).bs = s0.bs := rfl
  have hF : (enterSt .ro s0).flr ≤ s0.bs.length := Nat.le_refl _
  have hH : Has s0.bs.length (enterSt .ro s0) (enterSt .ro s0) [] := Has.start (Nat.le_refl _) (Nat.le_refl _)
  generalize enterSt .ro s0 = S at *
  have hc := hx.c.arg s0.bs.length S
  try refine qy ?_
  repeat refine qq ?_
  try generalize hK : SeqQ _ _ _ _ = K
  refine EvC.reg ?_
  refine qm ?_
  refine qm ?_
  refine EvO.nil ?_
  try subst hK
  try refine qy ?_
  repeat refine qq ?_
  try generalize hK : SeqQ _ _ _ _ = K
  refine EvC.reg ?_
  refine qm ?_
  refine qm ?_
  refine qr fun p14 hp14 => ?_
  refine EvO.rloadS rfl (ev rfl) (by assumption) rfl (by dsimp only [Fr.put, List.set_cons_succ, List.set_cons_zero] <;> rfl) ?_
  refine qa hH fun k6 st hk6 hH => ?_
  try dsimp only [u2, u1, u3, u4, setMany, u5, u6, D.cells, Nat.reduceAdd, nodC, intC] at hH
  refine qS hH at0 fun st hH => ?_
  try dsimp only [u2, u1, u3, u4, setMany, u5, u6, D.cells, Nat.reduceAdd, nodC, intC] at hH
  refine EvO.nil ?_
  try subst hK
  try refine qy ?_
  repeat refine qq ?_
  try generalize hK : SeqQ _ _ _ _ = K
  refine EvC.reg ?_
  refine qm ?_
  refine qA ?_
  refine qm ?_
  refine EvO.nil ?_
  try subst hK
  try refine qy ?_
  repeat refine qq ?_
  try generalize hK : SeqQ _ _ _ _ = K
  refine EvC.reg ?_
  refine qm ?_
  refine EvO.nil ?_
  try subst hK
  try refine qy ?_
  repeat refine qq ?_
  try generalize hK : SeqQ _ _ _ _ = K
  refine EvC.reg ?_
  refine qm ?_
  refine EvO.nil ?_
  try subst hK
  try refine qy ?_
  repeat refine qq ?_
  try generalize hK : SeqQ _ _ _ _ = K
  refine EvC.reg ?_
  refine qm ?_
  refine EvO.nil ?_
  try subst hK
  try refine qy ?_
  have hH : Has s0.bs.length S st (.lst .nul 1 (([] : List Int).map intC) :: .box k6 (.mem 0 false (nodC n)) :: []) := hH.nulE 1
  try refine qy ?_
  repeat refine qq ?_
  refine EvC.block ?_
  refine EvC.loop (fun mm fr st => ∃ (i j ss dn : Nat) (rest : Trs) (kd : D) (kl : List Int), fr.clean = ⟨40, [x.d, .int .i64 (j : Nat), ixF_Qk fr 2, ixF_Qk fr 3, .int .i64 0, .int .i64 0, .ptr k6 0 0, .int .i64 (ss : Nat), kd, .int .i64 (i : Nat), ixF_Qk fr 10, ixF_Qk fr 11, ixF_Qk fr 12, ixF_Qk fr 13, ixF_Qk fr 14, ixF_Qk fr 15, ixF_Qk fr 16, ixF_Qk fr 17, ixF_Qk fr 18, ixF_Qk fr 19, ixF_Qk fr 20, ixF_Qk fr 21, ixF_Qk fr 22, ixF_Qk fr 23, ixF_Qk fr 24, ixF_Qk fr 25, ixF_Qk fr 26, ixF_Qk fr 27, ixF_Qk fr 28, ixF_Qk fr 29, ixF_Qk fr 30, ixF_Qk fr 31, ixF_Qk fr 32, ixF_Qk fr 33, ixF_Qk fr 34, ixF_Qk fr 35, ixF_Qk fr 36, ixF_Qk fr 37, ixF_Qk fr 38, ixF_Qk fr 39], []⟩ ∧ Has s0.bs.length S st [.lst kd 1 (kl.map intC), .box k6 (.mem 0 false (nodC n))] ∧ (mm = rest.len) ∧ (i + rest.len = ks.len) ∧ (Seg x.l j rest.flat) ∧ (rest.ok) ∧ (dn + rest.sz = ks.sz) ∧ (ss = dn ∨ (1000 ≤ ss ∧ 1000 ≤ dn)) ∧ (ss ≤ 1000 * i) ∧ (kl.length = i) ∧ (i = 0 → rest = ks) ∧ (∀ t0 ts0, 0 < i → ks = .cons t0 ts0 → kl[0]? = some ((min t0.sz 1000 : Nat) : Int)) ∧ (j + rest.flat.length = at_ + 1 + ks.flat.length) ∧ (rest.flat.length ≤ m)) (ks.len) ?_ ?_
  ·exact ⟨0, at_ + 1, 0, 0, ks, .nul, [], rfl, hH, rfl, by omega, hseg, hks, by omega, .inl rfl, by omega, rfl, fun _ => rfl, fun t0 ts0 h => by omega, rfl, by omega⟩
  rintro mm fr st ⟨i, j, ss, dn, rest, kd, kl, hfr, hH, hmm, hi2, hsg, hrok, hdn, hcap, hsb, hkl, hk0, hk1, hj, hrm⟩
  rw [hfr]
  clear hfr
  try generalize ixF_Qk fr = ee
  clear fr
  try refine qy ?_
  repeat refine qq ?_
  try generalize hK : SeqQ _ _ _ _ = K
  refine EvC.reg ?_
  refine qm ?_
  refine qp (o := 6) ?_
  refine ql hH at1 ?_
  refine qg ?_
  refine EvO.nil ?_
  try subst hK
  try refine qy ?_
  cases rest with
  | nil =>
   simp only [Trs.len] at hi2
   simp only [Trs.sz] at hdn
   simp only [Trs.flat, List.length_nil] at hj
   have hcc : decide ((i : Int) < n.kids) = false := by rw [decide_eq_false_iff_not]; omega
   have hje : j = at_ + (ks.flat.length + 1) := by omega
   try refine qy ?_
   repeat refine qq ?_
   refine EvC.cond (v := false) (by dsimp only [Fr.ev, Fr.get, nth, Go.V.look]; rw [hcc]) (fun h => by cases h) (fun _ => ?_)
   try refine qy ?_
   refine EvC.exit ?_
   try refine qy ?_
   repeat refine qq ?_
   try generalize hK : SeqQ _ _ _ _ = K
   refine EvC.reg ?_
   refine qp (o := 0) ?_
   refine ql hH at1 ?_
   refine EvO.nil ?_
   try subst hK
   try refine qy ?_
   repeat refine qq ?_
   refine EvC.merge (fun fr st => ∃ (v : Nat) (tmp : List (Nat × D)), fr = ⟨40, [x.d, .int .i64 (j : Nat), ixF_Qk fr 2, ixF_Qk fr 3, .int .i64 0, .int .i64 0, .ptr k6 0 0, .int .i64 (v : Nat), ixF_Qk fr 8, ixF_Qk fr 9, ixF_Qk fr 10, ixF_Qk fr 11, ixF_Qk fr 12, ixF_Qk fr 13, ixF_Qk fr 14, ixF_Qk fr 15, ixF_Qk fr 16, ixF_Qk fr 17, ixF_Qk fr 18, ixF_Qk fr 19, ixF_Qk fr 20, ixF_Qk fr 21, ixF_Qk fr 22, ixF_Qk fr 23, ixF_Qk fr 24, ixF_Qk fr 25, ixF_Qk fr 26, ixF_Qk fr 27, ixF_Qk fr 28, ixF_Qk fr 29, ixF_Qk fr 30, ixF_Qk fr 31, ixF_Qk fr 32, ixF_Qk fr 33, ixF_Qk fr 34, ixF_Qk fr 35, ixF_Qk fr 36, ixF_Qk fr 37, ixF_Qk fr 38, ixF_Qk fr 39], tmp⟩ ∧ Has s0.bs.length S st [.lst kd 1 (kl.map intC), .box k6 (.mem 0 false (nodC n))] ∧ (min v 1000 = min (nodSz n ks.sz ks.len) 1000)) ?_ ?_
   ·try refine qy ?_
    repeat refine qq ?_
    refine EvC.block ?_
    obtain rfl : dn = ks.sz := by omega
    have hcg := cap_gen (n := n) (k := ks.len) (c := 1000) (by omega) hcap
    try refine qy ?_
    repeat refine qq ?_
    try generalize hK : SeqQ _ _ _ _ = K
    refine EvC.reg ?_
    refine qg ?_
    refine qm ?_
    refine EvO.nil ?_
    try subst hK
    try refine qy ?_
    by_cases q2 : n.op = 2
    ·have hz : nodSz n ks.sz ks.len = 1 := by unfold nodSz; rw [if_pos (.inl q2)]
     try refine qy ?_
     repeat refine qq ?_
     refine EvC.cond (v := true) (by dsimp only [Fr.ev, Fr.get, nth, Go.V.look]; simp [q2]) (fun _ => ?_) (fun h => by cases h)
     try refine qy ?_
     refine EvC.skip ?_
     try refine qy ?_
     repeat refine qq ?_
     refine EvC.cond (v := true) (by dsimp only [Fr.ev, Fr.get, nth, Go.V.look]; simp [q2]) (fun _ => ?_) (fun h => by cases h)
     try refine qy ?_
     repeat refine qq ?_
     try generalize hK : SeqQ _ _ _ _ = K
     refine EvC.reg ?_
     refine qm ?_
     refine EvO.nil ?_
     try subst hK
     try refine qy ?_
     exact ⟨1, _, rfl, hH, by rw [hz]⟩
    try refine qy ?_
    repeat refine qq ?_
    refine EvC.cond (v := false) (by dsimp only [Fr.ev, Fr.get, nth, Go.V.look]; simp [q2]) (fun h => by cases h) (fun _ => ?_)
    try refine qy ?_
    repeat refine qq ?_
    try generalize hK : SeqQ _ _ _ _ = K
    refine EvC.reg ?_
    refine qg ?_
    refine qm ?_
    refine EvO.nil ?_
    try subst hK
    try refine qy ?_
    by_cases q7 : n.op = 7
    ·have hz : nodSz n ks.sz ks.len = 1 := by unfold nodSz; rw [if_pos (.inr (.inl q7))]
     try refine qy ?_
     repeat refine qq ?_
     refine EvC.cond (v := true) (by dsimp only [Fr.ev, Fr.get, nth, Go.V.look]; simp [q7]) (fun _ => ?_) (fun h => by cases h)
     try refine qy ?_
     refine EvC.skip ?_
     try refine qy ?_
     repeat refine qq ?_
     refine EvC.cond (v := true) (by dsimp only [Fr.ev, Fr.get, nth, Go.V.look]; simp [q7]) (fun _ => ?_) (fun h => by cases h)
     try refine qy ?_
     repeat refine qq ?_
     try generalize hK : SeqQ _ _ _ _ = K
     refine EvC.reg ?_
     refine qm ?_
     refine EvO.nil ?_
     try subst hK
     try refine qy ?_
     exact ⟨1, _, rfl, hH, by rw [hz]⟩
    try refine qy ?_
    repeat refine qq ?_
    refine EvC.cond (v := false) (by dsimp only [Fr.ev, Fr.get, nth, Go.V.look]; simp [q7]) (fun h => by cases h) (fun _ => ?_)
    try refine qy ?_
    repeat refine qq ?_
    try generalize hK : SeqQ _ _ _ _ = K
    refine EvC.reg ?_
    refine qg ?_
    refine qm ?_
    refine EvO.nil ?_
    try subst hK
    try refine qy ?_
    by_cases q8 : n.op = 8
    ·have hz : nodSz n ks.sz ks.len = 1 := by unfold nodSz; rw [if_pos (.inr (.inr q8))]
     try refine qy ?_
     repeat refine qq ?_
     refine EvC.cond (v := true) (by dsimp only [Fr.ev, Fr.get, nth, Go.V.look]; simp [q8]) (fun _ => ?_) (fun h => by cases h)
     try refine qy ?_
     repeat refine qq ?_
     try generalize hK : SeqQ _ _ _ _ = K
     refine EvC.reg ?_
     refine qm ?_
     refine EvO.nil ?_
     try subst hK
     try refine qy ?_
     exact ⟨1, _, rfl, hH, by rw [hz]⟩
    try refine qy ?_
    repeat refine qq ?_
    refine EvC.cond (v := false) (by dsimp only [Fr.ev, Fr.get, nth, Go.V.look]; simp [q8]) (fun h => by cases h) (fun _ => ?_)
    try refine qy ?_
    have hz0 : ∀ w, nodSz n w ks.len = if n.op = 4 then w + 2 * (ks.len - 1) else if n.op = 6 then w + 2 else if n.op = 5 then (if n.mx = -1 then n.mn.toNat * w + w + 2 else n.mn.toNat * w + (n.mx.toNat - n.mn.toNat) * (w + 1)) else w := by
     intro w; unfold nodSz; rw [if_neg (by omega)]
    obtain ⟨_, hcs⟩ := hno
    have hq : (n.op = 1 ∧ ks.len = 0) ∨ ((n.op = 3 ∨ n.op = 4) ∧ 2 ≤ ks.len) ∨ (n.op = 5 ∧ ks.len = 1 ∧ 0 ≤ n.mn ∧ n.mn ≤ 30 ∧ (n.mx = -1 ∨ (n.mn ≤ n.mx ∧ n.mx ≤ 30))) ∨ (n.op = 6 ∧ ks.len = 1 ∧ 1 ≤ n.cap ∧ n.cap ≤ 4) := by omega
    try refine qy ?_
    repeat refine qq ?_
    try generalize hK : SeqQ _ _ _ _ = K
    refine EvC.reg ?_
    refine qg ?_
    refine qm ?_
    refine EvO.nil ?_
    try subst hK
    try refine qy ?_
    by_cases q4 : n.op = 4
    ·have hk2 : 2 ≤ ks.len := by omega
     try refine qy ?_
     repeat refine qq ?_
     refine EvC.cond (v := true) (by dsimp only [Fr.ev, Fr.get, nth, Go.V.look]; simp [q4]) (fun _ => ?_) (fun h => by cases h)
     try refine qy ?_
     repeat refine qq ?_
     try generalize hK : SeqQ _ _ _ _ = K
     refine EvC.reg ?_
     refine qm ?_
     refine qp (o := 6) ?_
     refine ql hH at1 ?_
     refine EvO.subZ (z := ((ks.len - 1 : Nat) : Int)) rfl (ev rfl) (ev rfl) (by (try simp only [List.length_reverse, List.length_cons, List.length_nil, List.length_append, List.length_map, List.length_set]); rw [wrap_i64 (by omega) (by omega)] <;> omega) (put_T rfl _) ?_
     refine EvO.mulZ (z := ((2 * (ks.len - 1) : Nat) : Int)) rfl (ev rfl) (ev rfl) (by (try simp only [List.length_reverse, List.length_cons, List.length_nil, List.length_append, List.length_map, List.length_set]); rw [wrap_i64 (by omega) (by omega)] <;> omega) (put_T rfl _) ?_
     refine EvO.addZ (z := ((ss + 2 * (ks.len - 1) : Nat) : Int)) rfl (ev rfl) (ev rfl) (by (try simp only [List.length_reverse, List.length_cons, List.length_nil, List.length_append, List.length_map, List.length_set]); rw [wrap_i64 (by omega) (by omega)] <;> omega) (put_T rfl _) ?_
     refine qm ?_
     refine EvO.nil ?_
     try subst hK
     try refine qy ?_
     exact ⟨ss + 2 * (ks.len - 1), _, rfl, hH, by rw [← hcg, hz0, if_pos q4]⟩
    try refine qy ?_
    repeat refine qq ?_
    refine EvC.cond (v := false) (by dsimp only [Fr.ev, Fr.get, nth, Go.V.look]; simp [q4]) (fun h => by cases h) (fun _ => ?_)
    try refine qy ?_
    repeat refine qq ?_
    try generalize hK : SeqQ _ _ _ _ = K
    refine EvC.reg ?_
    refine qg ?_
    refine qm ?_
    refine EvO.nil ?_
    try subst hK
    try refine qy ?_
    by_cases q6 : n.op = 6
    ·try refine qy ?_
     repeat refine qq ?_
     refine EvC.cond (v := true) (by dsimp only [Fr.ev, Fr.get, nth, Go.V.look]; simp [q6]) (fun _ => ?_) (fun h => by cases h)
     try refine qy ?_
     repeat refine qq ?_
     try generalize hK : SeqQ _ _ _ _ = K
     refine EvC.reg ?_
     refine qm ?_
     refine EvO.addZ (z := ((ss + 2 : Nat) : Int)) rfl (ev rfl) (ev rfl) (by (try simp only [List.length_reverse, List.length_cons, List.length_nil, List.length_append, List.length_map, List.length_set]); rw [wrap_i64 (by omega) (by omega)] <;> omega) (put_T rfl _) ?_
     refine qm ?_
     refine EvO.nil ?_
     try subst hK
     try refine qy ?_
     exact ⟨ss + 2, _, rfl, hH, by rw [← hcg, hz0, if_neg q4, if_pos q6]⟩
    try refine qy ?_
    repeat refine qq ?_
    refine EvC.cond (v := false) (by dsimp only [Fr.ev, Fr.get, nth, Go.V.look]; simp [q6]) (fun h => by cases h) (fun _ => ?_)
    try refine qy ?_
    repeat refine qq ?_
    try generalize hK : SeqQ _ _ _ _ = K
    refine EvC.reg ?_
    refine qg ?_
    refine qm ?_
    refine EvO.nil ?_
    try subst hK
    try refine qy ?_
    by_cases q5 : n.op = 5
    ·have hk1' : ks.len = 1 := by omega
     obtain ⟨t0, rfl⟩ := Trs.len_one hk1'
     have hkg := hk1 t0 .nil (by omega) rfl
     have hr0 := int_get hkg
     have hsz0 : (Trs.cons t0 .nil).sz = t0.sz := sz_one t0
     have hcg0 := cap_gen (n := n) (k := (Trs.cons t0 .nil).len) (s := t0.sz) (s' := min t0.sz 1000) (c := 1000) (by omega) (by omega)
     rw [hsz0] at *
     have hwl : min t0.sz 1000 ≤ 1000 := by omega
     have hse : ss = min t0.sz 1000 ∨ True := .inr trivial
     generalize hw : min t0.sz 1000 = w at *
     have hmn : 0 ≤ n.mn ∧ n.mn ≤ 30 ∧ (n.mx = -1 ∨ (n.mn ≤ n.mx ∧ n.mx ≤ 30)) := by omega
     obtain ⟨a, ha⟩ : ∃ a : Nat, n.mn = (a : Int) := Int.eq_ofNat_of_zero_le hmn.1
     have hta : n.mn.toNat = a := by omega
     have h1 : a * w ≤ 30 * 1000 := Nat.mul_le_mul (by omega) hwl
     have hmul : n.mn * (w : Int) = ((a * w : Nat) : Int) := by rw [ha]; push_cast; rfl
     try refine qy ?_
     repeat refine qq ?_
     refine EvC.cond (v := true) (by dsimp only [Fr.ev, Fr.get, nth, Go.V.look]; simp [q5]) (fun _ => ?_) (fun h => by cases h)
     try refine qy ?_
     repeat refine qq ?_
     try generalize hK : SeqQ _ _ _ _ = K
     refine EvC.reg ?_
     refine qp (o := 2) ?_
     refine ql hH at1 ?_
     refine qm ?_
     refine qi hH at0 fun p61 hp61 => ?_
     refine qo hH at0 ?_
     refine EvO.mulZ (z := ((a * w : Nat) : Int)) rfl (ev rfl) (ev rfl) (by (try simp only [List.length_reverse, List.length_cons, List.length_nil, List.length_append, List.length_map, List.length_set]); rw [wrap_i64 (by omega) (by omega)] <;> omega) (put_T rfl _) ?_
     refine qm ?_
     refine EvO.nil ?_
     try subst hK
     try refine qy ?_
     repeat refine qq ?_
     try generalize hK : SeqQ _ _ _ _ = K
     refine EvC.reg ?_
     refine qp (o := 3) ?_
     refine ql hH at1 ?_
     refine qg ?_
     refine EvO.nil ?_
     try subst hK
     try refine qy ?_
     by_cases qmx : n.mx = -1
     ·try refine qy ?_
      repeat refine qq ?_
      refine EvC.cond (v := true) (by dsimp only [Fr.ev, Fr.get, nth, Go.V.look]; simp [qmx]) (fun _ => ?_) (fun h => by cases h)
      try refine qy ?_
      repeat refine qq ?_
      try generalize hK : SeqQ _ _ _ _ = K
      refine EvC.reg ?_
      refine qm ?_
      refine qm ?_
      refine qi hH at0 fun p69 hp69 => ?_
      refine qo hH at0 ?_
      refine EvO.addZ (z := ((a * w + w : Nat) : Int)) rfl (ev rfl) (ev rfl) (by (try simp only [List.length_reverse, List.length_cons, List.length_nil, List.length_append, List.length_map, List.length_set]); rw [wrap_i64 (by omega) (by omega)] <;> omega) (put_T rfl _) ?_
      refine EvO.addZ (z := ((a * w + w + 2 : Nat) : Int)) rfl (ev rfl) (ev rfl) (by (try simp only [List.length_reverse, List.length_cons, List.length_nil, List.length_append, List.length_map, List.length_set]); rw [wrap_i64 (by omega) (by omega)] <;> omega) (put_T rfl _) ?_
      refine qm ?_
      refine EvO.nil ?_
      try subst hK
      try refine qy ?_
      exact ⟨a * w + w + 2, _, rfl, hH, by rw [← hcg0, hz0, if_neg q4, if_neg q6, if_pos q5, if_pos qmx, hta]⟩
     ·obtain ⟨b, hb⟩ : ∃ b : Nat, n.mx = (b : Int) := Int.eq_ofNat_of_zero_le (by omega)
      have htb : n.mx.toNat = b := by omega
      have h2 : (b - a) * (w + 1) ≤ 30 * 1001 := Nat.mul_le_mul (by omega) (by omega)
      try refine qy ?_
      repeat refine qq ?_
      refine EvC.cond (v := false) (by dsimp only [Fr.ev, Fr.get, nth, Go.V.look]; simp [qmx]) (fun h => by cases h) (fun _ => ?_)
      try refine qy ?_
      repeat refine qq ?_
      try generalize hK : SeqQ _ _ _ _ = K
      refine EvC.reg ?_
      refine qm ?_
      refine qp (o := 3) ?_
      refine ql hH at1 ?_
      refine qp (o := 2) ?_
      refine ql hH at1 ?_
      refine EvO.subZ (z := ((b - a : Nat) : Int)) rfl (ev rfl) (ev rfl) (by (try simp only [List.length_reverse, List.length_cons, List.length_nil, List.length_append, List.length_map, List.length_set]); rw [wrap_i64 (by omega) (by omega)] <;> omega) (put_T rfl _) ?_
      refine qm ?_
      refine qi hH at0 fun p80 hp80 => ?_
      refine qo hH at0 ?_
      refine EvO.addZ (z := ((w + 1 : Nat) : Int)) rfl (ev rfl) (ev rfl) (by (try simp only [List.length_reverse, List.length_cons, List.length_nil, List.length_append, List.length_map, List.length_set]); rw [wrap_i64 (by omega) (by omega)] <;> omega) (put_T rfl _) ?_
      refine EvO.mulZ (z := (((b - a) * (w + 1) : Nat) : Int)) rfl (ev rfl) (ev rfl) (by (try simp only [List.length_reverse, List.length_cons, List.length_nil, List.length_append, List.length_map, List.length_set]); rw [wrap_i64 (by omega) (by omega)] <;> omega) (put_T rfl _) ?_
      refine EvO.addZ (z := ((a * w + (b - a) * (w + 1) : Nat) : Int)) rfl (ev rfl) (ev rfl) (by (try simp only [List.length_reverse, List.length_cons, List.length_nil, List.length_append, List.length_map, List.length_set]); rw [wrap_i64 (by omega) (by omega)] <;> omega) (put_T rfl _) ?_
      refine qm ?_
      refine EvO.nil ?_
      try subst hK
      try refine qy ?_
      exact ⟨a * w + (b - a) * (w + 1), _, rfl, hH, by rw [← hcg0, hz0, if_neg q4, if_neg q6, if_pos q5, if_neg qmx, hta, htb]⟩
    ·try refine qy ?_
     repeat refine qq ?_
     refine EvC.cond (v := false) (by dsimp only [Fr.ev, Fr.get, nth, Go.V.look]; simp [q5]) (fun h => by cases h) (fun _ => ?_)
     try refine qy ?_
     refine EvC.skip ?_
     try refine qy ?_
     exact ⟨ss, _, rfl, hH, by rw [← hcg, hz0, if_neg q4, if_neg q6, if_neg q5]⟩
   ·rintro fr st ⟨v, tmp, hfr, hH, hv⟩
    rw [hfr]
    clear hfr
    try generalize ixF_Qk fr = ee
    clear fr
    try refine qy ?_
    rw [← hje, ← hv]
    try refine qy ?_
    repeat refine qq ?_
    try generalize hK : SeqQ _ _ _ _ = K
    refine EvC.reg ?_
    refine qm ?_
    refine EvO.minZ (z := ((min v 1000 : Nat) : Int)) (t1 := _) (t2 := _) rfl (ev rfl) (ev rfl) (by omega) (put_T rfl _) ?_
    refine qm ?_
    refine qm ?_
    refine qm ?_
    refine EvO.nil ?_
    try subst hK
    try refine qy ?_
    refine EvC.ret ⟨fun i h => (by cases h), _, rfl, leave_ro (by simp) hSb hH (rfl)⟩
  | cons t ts =>
   simp only [Trs.len] at hi2 hmm
   simp only [Trs.sz] at hdn
   simp only [Trs.flat, List.length_append] at hj hsg hrm
   simp only [Trs.ok] at hrok
   have htp := t.flat_pos
   have hcc : decide ((i : Int) < n.kids) = true := by rw [decide_eq_true_eq]; omega
   try refine qy ?_
   repeat refine qq ?_
   refine EvC.cond (v := true) (by dsimp only [Fr.ev, Fr.get, nth, Go.V.look]; rw [hcc]) (fun _ => ?_) (fun h => by cases h)
   try refine qy ?_
   refine EvC.skip ?_
   try refine qy ?_
   repeat refine qq ?_
   refine EvC.block ?_
   try refine qy ?_
   repeat refine qq ?_
   try generalize hK : SeqQ _ _ _ _ = K
   refine EvC.reg ?_
   refine qm ?_
   refine qm ?_
   refine EvO.hcall rfl rfl (ih t (by omega) hrok.1 hsg.left) (by dsimp only [Fr.put, List.set_cons_succ, List.set_cons_zero] <;> rfl) ?_
   refine qm ?_
   refine qg ?_
   refine qg ?_
   refine qm ?_
   refine qm ?_
   refine EvO.nil ?_
   try subst hK
   try refine qy ?_
   repeat refine qq ?_
   try generalize hK : SeqQ _ _ _ _ = K
   refine EvC.reg ?_
   refine qm ?_
   refine qm ?_
   refine qh (s := 1) (vs := [_]) hH fun k32 st hk32 hH => ?_
   try dsimp only [u2, u1, u3, u4, setMany, u5, u6, D.cells, Nat.reduceAdd, nodC, intC] at hH
   refine qP hH at1 (hH.rows at0) fun x33 st hH => ?_
   try dsimp only [u2, u1, u3, u4, setMany, u5, u6, D.cells, Nat.reduceAdd, nodC, intC] at hH
   refine qm ?_
   refine EvO.nil ?_
   try subst hK
   try refine qy ?_
   repeat refine qq ?_
   try generalize hK : SeqQ _ _ _ _ = K
   refine EvC.reg ?_
   refine qm ?_
   refine qm ?_
   refine EvO.addZ (z := ((ss + min t.sz 1000 : Nat) : Int)) rfl (ev rfl) (ev rfl) (by (try simp only [List.length_reverse, List.length_cons, List.length_nil, List.length_append, List.length_map, List.length_set]); rw [wrap_i64 (by omega) (by omega)] <;> omega) (by dsimp only [Fr.put, List.set_cons_succ, List.set_cons_zero] <;> rfl) ?_
   refine qm ?_
   refine EvO.nil ?_
   try subst hK
   try refine qy ?_
   repeat refine qq ?_
   try generalize hK : SeqQ _ _ _ _ = K
   refine EvC.reg ?_
   refine qm ?_
   refine qm ?_
   refine EvO.nil ?_
   try subst hK
   try refine qy ?_
   repeat refine qq ?_
   try generalize hK : SeqQ _ _ _ _ = K
   refine EvC.reg ?_
   refine qm ?_
   refine qA ?_
   refine qm ?_
   refine EvO.nil ?_
   try subst hK
   try refine qy ?_
   refine ⟨mm - 1, by omega, ⟨i + 1, j + t.flat.length, ss + min t.sz 1000, dn + t.sz, ts, x33, kl ++ [((min t.sz 1000 : Nat) : Int)], rfl, (by rw [List.map_append (f := intC)]; exact hH.drop 1), by omega, by omega, hsg.right, hrok.2, by omega, by omega, by omega, by rw [List.length_append, hkl]; rfl, fun h => by omega, ?_, by omega, by omega⟩⟩
   intro t0 ts0 _ hks0
   by_cases hi0 : i = 0
   ·have hrk := hk0 hi0
    rw [hks0] at hrk
    cases hrk
    have : kl = [] := List.length_eq_zero_iff.1 (by omega)
    rw [this]; rfl
   ·rw [List.getElem?_append_left (by omega)]
    exact hk1 t0 ts0 (by omega) hks0
end Go.Proofs.Ytbdilgkfnacahaa
