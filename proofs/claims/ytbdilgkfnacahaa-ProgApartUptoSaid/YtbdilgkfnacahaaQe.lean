/-
 Of each node how many instructions its code has, and what stands behind it: both lists are filled in place.
-/
import Derived.Test.YtbdilgkfnacahaaQd
namespace Go.Proofs.Ytbdilgkfnacahaa
open Go.V Go
set_option maxRecDepth 100000
set_option maxHeartbeats 4000000
set_option linter.unusedSimpArgs false
set_option linter.unusedVariables false

/-- what a frame holds at a slot -/
def ixF_Qe (fr : Go.V.Fr) (k : Nat) : Go.V.D := Go.V.nth .junk fr.loc k

/-- a part of a list, written over -/
def spl (es : List Int) (a : Nat) (M : List Int) : List Int := es.take a ++ M ++ es.drop (a + M.length)
theorem spl_len {es M : List Int} {a : Nat} (h : a + M.length ≤ es.length) : (spl es a M).length = es.length := by
 unfold spl; simp only [List.length_append, List.length_take, List.length_drop]; omega
theorem spl_nil {es : List Int} {a : Nat} : spl es a [] = es := by
 unfold spl; simp
theorem spl_get {es M : List Int} {a : Nat} {x : Int} (h : a ≤ es.length) : (spl es a (x :: M))[a]? = some x := by
 unfold spl
 rw [List.append_assoc, List.getElem?_append_right (by simp only [List.length_take]; omega)]
 simp [Nat.min_eq_left h]
theorem spl_spl {es M M' : List Int} {a : Nat} (h : a + M.length + M'.length ≤ es.length) : spl (spl es a M) (a + M.length) M' = spl es a (M ++ M') := by
 unfold spl
 have h1 : (es.take a ++ M).length = a + M.length := by simp only [List.length_append, List.length_take]; omega
 rw [List.take_append_of_le_length (by omega), List.take_of_length_le (by omega)]
 rw [← h1, List.drop_append, List.drop_eq_nil_of_le (by omega), List.nil_append, h1, List.drop_drop]
 simp only [List.append_assoc, List.length_append]
 congr 4
 omega
theorem spl_set {es M : List Int} {a : Nat} {v : Int} (h : a + 1 + M.length ≤ es.length) : (spl es (a + 1) M).set a v = spl es a (v :: M) := by
 unfold spl
 have h1 : (es.take a).length = a := by simp only [List.length_take]; omega
 rw [List.append_assoc, List.take_add_one, List.getElem?_eq_getElem (by omega)]
 simp only [Option.toList_some, List.append_assoc, List.cons_append, List.nil_append, List.length_cons]
 rw [List.set_append_right _ _ (by omega), h1, Nat.sub_self, List.set_cons_zero]
 congr 4
 omega
theorem spl_seg {es M : List Int} {a : Nat} (h : a ≤ es.length) : Seg (spl es a M) a M := by
 unfold spl
 refine ⟨es.drop (a + M.length), ?_⟩
 rw [List.append_assoc, List.drop_append_of_le_length (by simp only [List.length_take]; omega), List.drop_of_length_le (by simp only [List.length_take]; omega)]; rfl

theorem sizes_ev {l : List Nod} {d : D} (hl : l.length ≤ 1048576) (hi : ∀ n ∈ l, n.ok) (hd : SlD d 7 (l.map nodC)) : ∀ (m : Nat) (t : Tr), t.flat.length ≤ m → t.ok → ∀ {N : Nat} {S s0 : St} {H : List Ent} {out : D} {es : List Int} {at_ : Nat}, Seg l at_ t.flat → es.length = l.length → Has N S s0 (.lst out 1 (es.map intC) :: H) →
  ∃ r st', Ev pv 37 [d, out, .int .i64 (at_ : Nat)] s0 r st' ∧ r = .int .i64 ((at_ + t.flat.length : Nat) : Int) ∧ Has N S st' (.lst out 1 ((spl es at_ t.zs).map intC) :: H) := by
 intro m
 induction m with
 | zero => intro t h; have := t.flat_pos; omega
 | succ m ih =>
  rintro ⟨n, ks⟩ hm hok N S s0 H out es at_ hseg hel hH
  simp only [Tr.ok] at hok
  obtain ⟨hno, hks⟩ := hok
  simp only [Tr.flat, List.length_cons] at hm
  have hle := hseg.le (by simp [Tr.flat])
  simp only [Tr.flat] at hseg hle
  simp only [List.length_cons] at hle
  have hn := hseg.head
  have hseg := hseg.tail
  have hnn := hi n (List.mem_of_getElem? hn)
  have hr1 := nod_get hn
  have hrf := nod_refs hnn
  have hkd := hno.1
  have hfl := Trs.len_le ks
  refine Ev.mkE rfl fi37 rfl rfl rfl ?_
  dsimp only [List.cons_append, List.nil_append, List.length, Nat.reduceSub, Nat.reduceAdd, List.replicate_succ, List.replicate_zero]
  have hH0 := hH
  have hH := hH.enterRw
  have hS2 : (enterSt .rw s0).bs = s0.bs := rfl
  generalize enterSt .rw s0 = S2 at *
  have hc := hd.arg N S2
  try refine qy ?_
  repeat refine qq ?_
  try generalize hK : SeqQ _ _ _ _ = K
  refine EvC.reg ?_
  refine qm ?_
  refine EvO.nil ?_
  try subst hK
  try refine qy ?_
  repeat refine qq ?_
  try generalize hK : SeqQ _ _ _ _ = K
  refine EvC.reg ?_
  refine qm ?_
  refine qm ?_
  refine qr fun p13 hp13 => ?_
  refine EvO.rloadS rfl (ev rfl) (by assumption) rfl (by dsimp only [Fr.put, List.set_cons_succ, List.set_cons_zero] <;> rfl) ?_
  refine qa hH fun k7 st hk7 hH => ?_
  try dsimp only [u2, u1, u3, u4, setMany, u5, u6, D.cells, Nat.reduceAdd, nodC, intC] at hH
  refine EvO.hstoreA hH rfl (ev rfl) (ev rfl) (by rfl) (by exact rfl) (by exact at0) (by exact rfl) (by exact .inr (by assumption)) (fun st hH => ?_)
  try dsimp only [u2, u1, u3, u4, setMany, u5, u6, D.cells, Nat.reduceAdd, nodC, intC] at hH
  refine EvO.nil ?_
  try subst hK
  try refine qy ?_
  repeat refine qq ?_
  try generalize hK : SeqQ _ _ _ _ = K
  refine EvC.reg ?_
  refine qm ?_
  refine qA ?_
  refine qm ?_
  refine EvO.nil ?_
  try subst hK
  try refine qy ?_
  repeat refine qq ?_
  try generalize hK : SeqQ _ _ _ _ = K
  refine EvC.reg ?_
  refine qm ?_
  refine EvO.nil ?_
  try subst hK
  try refine qy ?_
  repeat refine qq ?_
  try generalize hK : SeqQ _ _ _ _ = K
  refine EvC.reg ?_
  refine qp (o := 6) ?_
  refine ql hH at0 ?_
  refine qm ?_
  refine EvO.nil ?_
  try subst hK
  try refine qy ?_
  repeat refine qq ?_
  refine EvC.block ?_
  refine EvC.loop (fun mm fr st => ∃ (i j ss : Nat) (rest : Trs) (es2 : List Int), fr.clean = ⟨36, [d, out, .int .i64 (at_ : Nat), ixF_Qe fr 3, ixF_Qe fr 4, ixF_Qe fr 5, .int .i64 0, .ptr k7 0 0, .int .i64 (j : Nat), .int .i64 ((min ss 401 : Nat) : Int), ixF_Qe fr 10, ixF_Qe fr 11, ixF_Qe fr 12, ixF_Qe fr 13, ixF_Qe fr 14, ixF_Qe fr 15, ixF_Qe fr 16, ixF_Qe fr 17, .int .i64 n.kids, .int .i64 (i : Nat), ixF_Qe fr 20, ixF_Qe fr 21, ixF_Qe fr 22, ixF_Qe fr 23, ixF_Qe fr 24, ixF_Qe fr 25, ixF_Qe fr 26, ixF_Qe fr 27, ixF_Qe fr 28, ixF_Qe fr 29, ixF_Qe fr 30, ixF_Qe fr 31, ixF_Qe fr 32, ixF_Qe fr 33, ixF_Qe fr 34, ixF_Qe fr 35], []⟩ ∧ Has N S2 st (.lst out 1 (es2.map intC) :: .box k7 (.mem 0 false (nodC n)) :: H) ∧ (mm = rest.len) ∧ (i + rest.len = ks.len) ∧ (Seg l j rest.flat) ∧ (rest.ok) ∧ (ss + rest.sz = ks.sz) ∧ (es2.length = l.length) ∧ (spl es2 j rest.zs = spl es (at_ + 1) ks.zs) ∧ (j + rest.flat.length = at_ + 1 + ks.flat.length) ∧ (rest.flat.length ≤ m)) (ks.len) ?_ ?_
  ·exact ⟨0, at_ + 1, 0, ks, es, rfl, (by have := hH.front at1; exact this), rfl, by omega, hseg, hks, by omega, hel, rfl, rfl, by omega⟩
  rintro mm fr st ⟨i, j, ss, rest, es2, hfr, hH, hmm, hi2, hsg, hrok, hss, hel2, hspl, hj, hrm⟩
  rw [hfr]
  clear hfr
  try generalize ixF_Qe fr = ee
  clear fr
  try refine qy ?_
  repeat refine qq ?_
  try generalize hK : SeqQ _ _ _ _ = K
  refine EvC.reg ?_
  refine qg ?_
  refine EvO.nil ?_
  try subst hK
  try refine qy ?_
  cases rest with
  | nil =>
   simp only [Trs.len] at hi2
   simp only [Trs.sz] at hss
   simp only [Trs.flat, List.length_nil] at hj
   simp only [Trs.zs, spl_nil] at hspl
   have hcc : decide ((i : Int) < n.kids) = false := by rw [decide_eq_false_iff_not]; omega
   try refine qy ?_
   repeat refine qq ?_
   refine EvC.cond (v := false) (by dsimp only [Fr.ev, Fr.get, nth, Go.V.look]; rw [hcc]) (fun h => by cases h) (fun _ => ?_)
   try refine qy ?_
   refine EvC.exit ?_
   try refine qy ?_
   obtain rfl : ss = ks.sz := by omega
   have hseg := hsg
   try refine qy ?_
   repeat refine qq ?_
   try generalize hK : SeqQ _ _ _ _ = K
   refine EvC.reg ?_
   refine qp (o := 0) ?_
   refine ql hH at1 ?_
   refine EvO.nil ?_
   try subst hK
   try refine qy ?_
   repeat refine qq ?_
   refine EvC.merge (fun fr st => ∃  (tmp : List (Nat × D)), fr = ⟨36, [d, out, .int .i64 (at_ : Nat), ixF_Qe fr 3, ixF_Qe fr 4, ixF_Qe fr 5, .int .i64 0, .ptr k7 0 0, .int .i64 (j : Nat), .int .i64 ((nodSz n (min ks.sz 401) ks.len : Nat) : Int), ixF_Qe fr 10, ixF_Qe fr 11, ixF_Qe fr 12, ixF_Qe fr 13, ixF_Qe fr 14, ixF_Qe fr 15, ixF_Qe fr 16, ixF_Qe fr 17, ixF_Qe fr 18, ixF_Qe fr 19, ixF_Qe fr 20, ixF_Qe fr 21, ixF_Qe fr 22, ixF_Qe fr 23, ixF_Qe fr 24, ixF_Qe fr 25, ixF_Qe fr 26, ixF_Qe fr 27, ixF_Qe fr 28, ixF_Qe fr 29, ixF_Qe fr 30, ixF_Qe fr 31, ixF_Qe fr 32, ixF_Qe fr 33, ixF_Qe fr 34, ixF_Qe fr 35], tmp⟩ ∧ Has N S2 st (.lst out 1 (es2.map intC) :: .box k7 (.mem 0 false (nodC n)) :: H)) ?_ ?_
   ·try refine qy ?_
    repeat refine qq ?_
    refine EvC.block ?_
    try refine qy ?_
    repeat refine qq ?_
    try generalize hK : SeqQ _ _ _ _ = K
    refine EvC.reg ?_
    refine qg ?_
    refine qm ?_
    refine EvO.nil ?_
    try subst hK
    try refine qy ?_
    generalize hw : min ks.sz 401 = w
    have hwl : w ≤ 401 := by omega
    have hkl : ks.len ≤ 9223372036854775 → True := fun _ => trivial
    by_cases q2 : n.op = 2
    ·have hz : nodSz n w ks.len = 1 := by unfold nodSz; rw [if_pos (.inl q2)]
     rw [hz]
     try refine qy ?_
     repeat refine qq ?_
     refine EvC.cond (v := true) (by dsimp only [Fr.ev, Fr.get, nth, Go.V.look]; simp [q2]) (fun _ => ?_) (fun h => by cases h)
     try refine qy ?_
     refine EvC.skip ?_
     try refine qy ?_
     repeat refine qq ?_
     refine EvC.cond (v := true) (by dsimp only [Fr.ev, Fr.get, nth, Go.V.look]; simp [q2]) (fun _ => ?_) (fun h => by cases h)
     try refine qy ?_
     repeat refine qq ?_
     try generalize hK : SeqQ _ _ _ _ = K
     refine EvC.reg ?_
     refine qm ?_
     refine EvO.nil ?_
     try subst hK
     try refine qy ?_
     exact ⟨_, rfl, hH⟩
    try refine qy ?_
    repeat refine qq ?_
    refine EvC.cond (v := false) (by dsimp only [Fr.ev, Fr.get, nth, Go.V.look]; simp [q2]) (fun h => by cases h) (fun _ => ?_)
    try refine qy ?_
    repeat refine qq ?_
    try generalize hK : SeqQ _ _ _ _ = K
    refine EvC.reg ?_
    refine qg ?_
    refine qm ?_
    refine EvO.nil ?_
    try subst hK
    try refine qy ?_
    by_cases q7 : n.op = 7
    ·have hz : nodSz n w ks.len = 1 := by unfold nodSz; rw [if_pos (.inr (.inl q7))]
     rw [hz]
     try refine qy ?_
     repeat refine qq ?_
     refine EvC.cond (v := true) (by dsimp only [Fr.ev, Fr.get, nth, Go.V.look]; simp [q7]) (fun _ => ?_) (fun h => by cases h)
     try refine qy ?_
     refine EvC.skip ?_
     try refine qy ?_
     repeat refine qq ?_
     refine EvC.cond (v := true) (by dsimp only [Fr.ev, Fr.get, nth, Go.V.look]; simp [q7]) (fun _ => ?_) (fun h => by cases h)
     try refine qy ?_
     repeat refine qq ?_
     try generalize hK : SeqQ _ _ _ _ = K
     refine EvC.reg ?_
     refine qm ?_
     refine EvO.nil ?_
     try subst hK
     try refine qy ?_
     exact ⟨_, rfl, hH⟩
    try refine qy ?_
    repeat refine qq ?_
    refine EvC.cond (v := false) (by dsimp only [Fr.ev, Fr.get, nth, Go.V.look]; simp [q7]) (fun h => by cases h) (fun _ => ?_)
    try refine qy ?_
    repeat refine qq ?_
    try generalize hK : SeqQ _ _ _ _ = K
    refine EvC.reg ?_
    refine qg ?_
    refine qm ?_
    refine EvO.nil ?_
    try subst hK
    try refine qy ?_
    by_cases q8 : n.op = 8
    ·have hz : nodSz n w ks.len = 1 := by unfold nodSz; rw [if_pos (.inr (.inr q8))]
     rw [hz]
     try refine qy ?_
     repeat refine qq ?_
     refine EvC.cond (v := true) (by dsimp only [Fr.ev, Fr.get, nth, Go.V.look]; simp [q8]) (fun _ => ?_) (fun h => by cases h)
     try refine qy ?_
     repeat refine qq ?_
     try generalize hK : SeqQ _ _ _ _ = K
     refine EvC.reg ?_
     refine qm ?_
     refine EvO.nil ?_
     try subst hK
     try refine qy ?_
     exact ⟨_, rfl, hH⟩
    try refine qy ?_
    repeat refine qq ?_
    refine EvC.cond (v := false) (by dsimp only [Fr.ev, Fr.get, nth, Go.V.look]; simp [q8]) (fun h => by cases h) (fun _ => ?_)
    try refine qy ?_
    have hz0 : nodSz n w ks.len = if n.op = 4 then w + 2 * (ks.len - 1) else if n.op = 6 then w + 2 else if n.op = 5 then (if n.mx = -1 then n.mn.toNat * w + w + 2 else n.mn.toNat * w + (n.mx.toNat - n.mn.toNat) * (w + 1)) else w := by
     unfold nodSz; rw [if_neg (by omega)]
    rw [hz0]
    clear hz0
    obtain ⟨_, hcs⟩ := hno
    have hq : (n.op = 1 ∧ ks.len = 0) ∨ ((n.op = 3 ∨ n.op = 4) ∧ 2 ≤ ks.len) ∨ (n.op = 5 ∧ ks.len = 1 ∧ 0 ≤ n.mn ∧ n.mn ≤ 30 ∧ (n.mx = -1 ∨ (n.mn ≤ n.mx ∧ n.mx ≤ 30))) ∨ (n.op = 6 ∧ ks.len = 1 ∧ 1 ≤ n.cap ∧ n.cap ≤ 4) := by omega
    try refine qy ?_
    repeat refine qq ?_
    try generalize hK : SeqQ _ _ _ _ = K
    refine EvC.reg ?_
    refine qg ?_
    refine qm ?_
    refine EvO.nil ?_
    try subst hK
    try refine qy ?_
    by_cases q4 : n.op = 4
    ·rw [if_pos q4]
     have hk2 : 2 ≤ ks.len := by omega
     try refine qy ?_
     repeat refine qq ?_
     refine EvC.cond (v := true) (by dsimp only [Fr.ev, Fr.get, nth, Go.V.look]; simp [q4]) (fun _ => ?_) (fun h => by cases h)
     try refine qy ?_
     repeat refine qq ?_
     try generalize hK : SeqQ _ _ _ _ = K
     refine EvC.reg ?_
     refine qm ?_
     refine qp (o := 6) ?_
     refine ql hH at1 ?_
     refine EvO.subZ (z := ((ks.len - 1 : Nat) : Int)) rfl (ev rfl) (ev rfl) (by (try simp only [List.length_reverse, List.length_cons, List.length_nil, List.length_append, List.length_map, List.length_set]); rw [wrap_i64 (by omega) (by omega)] <;> omega) (put_T rfl _) ?_
     refine EvO.mulZ (z := ((2 * (ks.len - 1) : Nat) : Int)) rfl (ev rfl) (ev rfl) (by (try simp only [List.length_reverse, List.length_cons, List.length_nil, List.length_append, List.length_map, List.length_set]); rw [wrap_i64 (by omega) (by omega)] <;> omega) (put_T rfl _) ?_
     refine EvO.addZ (z := ((w + 2 * (ks.len - 1) : Nat) : Int)) rfl (ev rfl) (ev rfl) (by (try simp only [List.length_reverse, List.length_cons, List.length_nil, List.length_append, List.length_map, List.length_set]); rw [wrap_i64 (by omega) (by omega)] <;> omega) (put_T rfl _) ?_
     refine qm ?_
     refine EvO.nil ?_
     try subst hK
     try refine qy ?_
     exact ⟨_, rfl, hH⟩
    rw [if_neg q4]
    try refine qy ?_
    repeat refine qq ?_
    refine EvC.cond (v := false) (by dsimp only [Fr.ev, Fr.get, nth, Go.V.look]; simp [q4]) (fun h => by cases h) (fun _ => ?_)
    try refine qy ?_
    repeat refine qq ?_
    try generalize hK : SeqQ _ _ _ _ = K
    refine EvC.reg ?_
    refine qg ?_
    refine qm ?_
    refine EvO.nil ?_
    try subst hK
    try refine qy ?_
    by_cases q6 : n.op = 6
    ·rw [if_pos q6]
     try refine qy ?_
     repeat refine qq ?_
     refine EvC.cond (v := true) (by dsimp only [Fr.ev, Fr.get, nth, Go.V.look]; simp [q6]) (fun _ => ?_) (fun h => by cases h)
     try refine qy ?_
     repeat refine qq ?_
     try generalize hK : SeqQ _ _ _ _ = K
     refine EvC.reg ?_
     refine qm ?_
     refine qA ?_
     refine qm ?_
     refine EvO.nil ?_
     try subst hK
     try refine qy ?_
     exact ⟨_, rfl, hH⟩
    rw [if_neg q6]
    try refine qy ?_
    repeat refine qq ?_
    refine EvC.cond (v := false) (by dsimp only [Fr.ev, Fr.get, nth, Go.V.look]; simp [q6]) (fun h => by cases h) (fun _ => ?_)
    try refine qy ?_
    repeat refine qq ?_
    try generalize hK : SeqQ _ _ _ _ = K
    refine EvC.reg ?_
    refine qg ?_
    refine qm ?_
    refine EvO.nil ?_
    try subst hK
    try refine qy ?_
    by_cases q5 : n.op = 5
    ·rw [if_pos q5]
     try refine qy ?_
     repeat refine qq ?_
     refine EvC.cond (v := true) (by dsimp only [Fr.ev, Fr.get, nth, Go.V.look]; simp [q5]) (fun _ => ?_) (fun h => by cases h)
     try refine qy ?_
     repeat refine qq ?_
     try generalize hK : SeqQ _ _ _ _ = K
     refine EvC.reg ?_
     refine qp (o := 3) ?_
     refine ql hH at1 ?_
     refine qg ?_
     refine EvO.nil ?_
     try subst hK
     try refine qy ?_
     have hmn : 0 ≤ n.mn ∧ n.mn ≤ 30 ∧ (n.mx = -1 ∨ (n.mn ≤ n.mx ∧ n.mx ≤ 30)) := by omega
     obtain ⟨a, ha⟩ : ∃ a : Nat, n.mn = (a : Int) := Int.eq_ofNat_of_zero_le hmn.1
     have hta : n.mn.toNat = a := by omega
     have h1 : a * w ≤ 30 * 401 := Nat.mul_le_mul (by omega) hwl
     have hmul : n.mn * (w : Int) = ((a * w : Nat) : Int) := by rw [ha]; push_cast; rfl
     rw [hta]
     by_cases qmx : n.mx = -1
     ·rw [if_pos qmx]
      try refine qy ?_
      repeat refine qq ?_
      refine EvC.cond (v := true) (by dsimp only [Fr.ev, Fr.get, nth, Go.V.look]; simp [qmx]) (fun _ => ?_) (fun h => by cases h)
      try refine qy ?_
      repeat refine qq ?_
      try generalize hK : SeqQ _ _ _ _ = K
      refine EvC.reg ?_
      refine qp (o := 2) ?_
      refine ql hH at1 ?_
      refine qm ?_
      refine EvO.mulZ (z := ((a * w : Nat) : Int)) rfl (ev rfl) (ev rfl) (by (try simp only [List.length_reverse, List.length_cons, List.length_nil, List.length_append, List.length_map, List.length_set]); rw [wrap_i64 (by omega) (by omega)] <;> omega) (put_T rfl _) ?_
      refine qm ?_
      refine EvO.addZ (z := ((a * w + w : Nat) : Int)) rfl (ev rfl) (ev rfl) (by (try simp only [List.length_reverse, List.length_cons, List.length_nil, List.length_append, List.length_map, List.length_set]); rw [wrap_i64 (by omega) (by omega)] <;> omega) (put_T rfl _) ?_
      refine EvO.addZ (z := ((a * w + w + 2 : Nat) : Int)) rfl (ev rfl) (ev rfl) (by (try simp only [List.length_reverse, List.length_cons, List.length_nil, List.length_append, List.length_map, List.length_set]); rw [wrap_i64 (by omega) (by omega)] <;> omega) (put_T rfl _) ?_
      refine qm ?_
      refine EvO.nil ?_
      try subst hK
      try refine qy ?_
      exact ⟨_, rfl, hH⟩
     ·rw [if_neg qmx]
      obtain ⟨b, hb⟩ : ∃ b : Nat, n.mx = (b : Int) := Int.eq_ofNat_of_zero_le (by omega)
      have htb : n.mx.toNat = b := by omega
      have h2 : (b - a) * (w + 1) ≤ 30 * 402 := Nat.mul_le_mul (by omega) (by omega)
      rw [htb]
      try refine qy ?_
      repeat refine qq ?_
      refine EvC.cond (v := false) (by dsimp only [Fr.ev, Fr.get, nth, Go.V.look]; simp [qmx]) (fun h => by cases h) (fun _ => ?_)
      try refine qy ?_
      repeat refine qq ?_
      try generalize hK : SeqQ _ _ _ _ = K
      refine EvC.reg ?_
      refine qp (o := 2) ?_
      refine ql hH at1 ?_
      refine qm ?_
      refine EvO.mulZ (z := ((a * w : Nat) : Int)) rfl (ev rfl) (ev rfl) (by (try simp only [List.length_reverse, List.length_cons, List.length_nil, List.length_append, List.length_map, List.length_set]); rw [wrap_i64 (by omega) (by omega)] <;> omega) (put_T rfl _) ?_
      refine qp (o := 3) ?_
      refine ql hH at1 ?_
      refine qp (o := 2) ?_
      refine ql hH at1 ?_
      refine EvO.subZ (z := ((b - a : Nat) : Int)) rfl (ev rfl) (ev rfl) (by (try simp only [List.length_reverse, List.length_cons, List.length_nil, List.length_append, List.length_map, List.length_set]); rw [wrap_i64 (by omega) (by omega)] <;> omega) (put_T rfl _) ?_
      refine qm ?_
      refine EvO.addZ (z := ((w + 1 : Nat) : Int)) rfl (ev rfl) (ev rfl) (by (try simp only [List.length_reverse, List.length_cons, List.length_nil, List.length_append, List.length_map, List.length_set]); rw [wrap_i64 (by omega) (by omega)] <;> omega) (put_T rfl _) ?_
      refine EvO.mulZ (z := (((b - a) * (w + 1) : Nat) : Int)) rfl (ev rfl) (ev rfl) (by (try simp only [List.length_reverse, List.length_cons, List.length_nil, List.length_append, List.length_map, List.length_set]); rw [wrap_i64 (by omega) (by omega)] <;> omega) (put_T rfl _) ?_
      refine EvO.addZ (z := ((a * w + (b - a) * (w + 1) : Nat) : Int)) rfl (ev rfl) (ev rfl) (by (try simp only [List.length_reverse, List.length_cons, List.length_nil, List.length_append, List.length_map, List.length_set]); rw [wrap_i64 (by omega) (by omega)] <;> omega) (put_T rfl _) ?_
      refine qm ?_
      refine EvO.nil ?_
      try subst hK
      try refine qy ?_
      exact ⟨_, rfl, hH⟩
    ·rw [if_neg q5]
     try refine qy ?_
     repeat refine qq ?_
     refine EvC.cond (v := false) (by dsimp only [Fr.ev, Fr.get, nth, Go.V.look]; simp [q5]) (fun h => by cases h) (fun _ => ?_)
     try refine qy ?_
     refine EvC.skip ?_
     try refine qy ?_
     exact ⟨_, rfl, hH⟩
   ·rintro fr st ⟨tmp, hfr, hH⟩
    rw [hfr]
    clear hfr
    try generalize ixF_Qe fr = ee
    clear fr
    try refine qy ?_
    have hcap := cap_nod (n := n) (k := ks.len) (s := ks.sz)
    have hat : at_ < es2.length := by omega
    obtain ⟨w, hw⟩ : ∃ w, es2[at_]? = some w := ⟨es2[at_]'hat, List.getElem?_eq_getElem _⟩
    have hr9 := int_get hw
    try refine qy ?_
    repeat refine qq ?_
    try generalize hK : SeqQ _ _ _ _ = K
    refine EvC.reg ?_
    refine qm ?_
    refine qm ?_
    refine qm ?_
    refine EvO.minZ (z := ((min (nodSz n ks.sz ks.len) 401 : Nat) : Int)) (t1 := _) (t2 := _) rfl (ev rfl) (ev rfl) (by omega) (put_T rfl _) ?_
    refine qi hH at0 fun p81 hp81 => ?_
    refine EvO.ostore hH rfl (ev rfl) (ev rfl) (by assumption) rfl rfl (by exact at0) (by assumption) (Nat.le_of_ble_eq_true rfl) (by exact .inr rfl) (fun st hH => ?_)
    try dsimp only [u2, u1, u3, u4, setMany, u5, u6, D.cells, Nat.reduceAdd, nodC, intC] at hH
    refine EvO.nil ?_
    try subst hK
    try refine qy ?_
    repeat refine qq ?_
    try generalize hK : SeqQ _ _ _ _ = K
    refine EvC.reg ?_
    refine qm ?_
    refine qm ?_
    refine EvO.nil ?_
    try subst hK
    try refine qy ?_
    refine EvC.ret ⟨fun i h => (by cases h), _, _, _, rfl, leaveD_rw (rfl), ?_⟩
    have hje : j = at_ + (Tr.mk n ks).flat.length := by simp only [Tr.flat, List.length_cons]; omega
    refine ⟨by rw [hje]; rfl, ?_⟩
    have hfin : spl es at_ (Tr.zs (.mk n ks)) = es2.set at_ ((min (nodSz n ks.sz ks.len) 401 : Nat) : Int) := by
     rw [hspl, spl_set (by rw [Trs.zs_len]; omega)]; rfl
    rw [hfin, List.map_set]
    exact hH0.leaveRwL hS2 (hH.erase 1)
  | cons t ts =>
   simp only [Trs.len] at hi2 hmm
   simp only [Trs.sz] at hss
   simp only [Trs.flat, List.length_append] at hj hsg hrm
   simp only [Trs.zs] at hspl
   simp only [Trs.ok] at hrok
   have hcc : decide ((i : Int) < n.kids) = true := by rw [decide_eq_true_eq]; omega
   have htp := t.flat_pos
   have htz := t.zs_len
   have hzz := ts.zs_len
   have hel3 : (spl es2 j t.zs).length = l.length := by rw [spl_len (by omega)]; exact hel2
   have hz8 : (spl es2 j t.zs)[j]? = some ((min t.sz 401 : Nat) : Int) := by
    obtain ⟨n', ks'⟩ := t
    simp only [Tr.zs, Tr.sz]
    exact spl_get (by omega)
   have hr8 := int_get hz8
   try refine qy ?_
   repeat refine qq ?_
   refine EvC.cond (v := true) (by dsimp only [Fr.ev, Fr.get, nth, Go.V.look]; rw [hcc]) (fun _ => ?_) (fun h => by cases h)
   try refine qy ?_
   refine EvC.skip ?_
   try refine qy ?_
   repeat refine qq ?_
   refine EvC.block ?_
   try refine qy ?_
   repeat refine qq ?_
   try generalize hK : SeqQ _ _ _ _ = K
   refine EvC.reg ?_
   refine qm ?_
   refine qm ?_
   refine EvO.nil ?_
   try subst hK
   try refine qy ?_
   repeat refine qq ?_
   try generalize hK : SeqQ _ _ _ _ = K
   refine EvC.reg ?_
   refine qm ?_
   refine qm ?_
   refine qm ?_
   obtain ⟨_, st, hev, rfl, hH⟩ := ih t (by omega) hrok.1 hsg.left hel2 hH
   refine EvO.hcall rfl rfl hev (by dsimp only [Fr.put, List.set_cons_succ, List.set_cons_zero] <;> rfl) ?_
   refine qm ?_
   refine EvO.nil ?_
   try subst hK
   try refine qy ?_
   repeat refine qq ?_
   try generalize hK : SeqQ _ _ _ _ = K
   refine EvC.reg ?_
   refine qm ?_
   refine qm ?_
   refine qm ?_
   refine qi hH at0 fun p29 hp29 => ?_
   refine qo hH at0 ?_
   refine EvO.addZ (z := ((min ss 401 + min t.sz 401 : Nat) : Int)) rfl (ev rfl) (ev rfl) (by (try simp only [List.length_reverse, List.length_cons, List.length_nil, List.length_append, List.length_map, List.length_set]); rw [wrap_i64 (by omega) (by omega)] <;> omega) (by dsimp only [Fr.put, List.set_cons_succ, List.set_cons_zero] <;> rfl) ?_
   refine EvO.minZ (z := ((min (ss + t.sz) 401 : Nat) : Int)) (t1 := _) (t2 := _) rfl (ev rfl) (ev rfl) (by omega) (by dsimp only [Fr.put, List.set_cons_succ, List.set_cons_zero] <;> rfl) ?_
   refine qm ?_
   refine EvO.nil ?_
   try subst hK
   try refine qy ?_
   repeat refine qq ?_
   try generalize hK : SeqQ _ _ _ _ = K
   refine EvC.reg ?_
   refine qA ?_
   refine qm ?_
   refine EvO.nil ?_
   try subst hK
   try refine qy ?_
   exact ⟨mm - 1, by omega, ⟨i + 1, j + t.flat.length, ss + t.sz, ts, spl es2 j t.zs, rfl, hH, by omega, by omega, hsg.right, hrok.2, by omega, hel3, by rw [← hspl]; have := spl_spl (es := es2) (a := j) (M := t.zs) (M' := ts.zs) (by omega); rw [htz] at this; exact this, by omega, by omega⟩⟩

theorem ends_ev {l : List Nod} {d : D} (hl : l.length ≤ 1048576) (hi : ∀ n ∈ l, n.ok) (hd : SlD d 7 (l.map nodC)) : ∀ (m : Nat) (t : Tr), t.flat.length ≤ m → t.ok → ∀ {N : Nat} {S s0 : St} {H : List Ent} {out : D} {es : List Int} {at_ : Nat}, Seg l at_ t.flat → es.length = l.length → Has N S s0 (.lst out 1 (es.map intC) :: H) →
  ∃ r st', Ev pv 38 [d, out, .int .i64 (at_ : Nat)] s0 r st' ∧ r = .int .i64 ((at_ + t.flat.length : Nat) : Int) ∧ Has N S st' (.lst out 1 ((spl es at_ (t.es at_)).map intC) :: H) := by
 intro m
 induction m with
 | zero => intro t h; have := t.flat_pos; omega
 | succ m ih =>
  rintro ⟨n, ks⟩ hm hok N S s0 H out es at_ hseg hel hH
  simp only [Tr.ok] at hok
  obtain ⟨hno, hks⟩ := hok
  simp only [Tr.flat, List.length_cons] at hm
  have hle := hseg.le (by simp [Tr.flat])
  simp only [Tr.flat] at hseg hle
  simp only [List.length_cons] at hle
  have hn := hseg.head
  have hseg := hseg.tail
  have hnn := hi n (List.mem_of_getElem? hn)
  have hr1 := nod_get hn
  have hkd := hno.1
  have hfl := Trs.len_le ks
  refine Ev.mkE rfl fi38 rfl rfl rfl ?_
  dsimp only [List.cons_append, List.nil_append, List.length, Nat.reduceSub, Nat.reduceAdd, List.replicate_succ, List.replicate_zero]
  have hH0 := hH
  have hH := hH.enterRw
  have hS2 : (enterSt .rw s0).bs = s0.bs := rfl
  generalize enterSt .rw s0 = S2 at *
  have hc := hd.arg N S2
  try refine qy ?_
  repeat refine qq ?_
  try generalize hK : SeqQ _ _ _ _ = K
  refine EvC.reg ?_
  refine qm ?_
  refine EvO.nil ?_
  try subst hK
  try refine qy ?_
  repeat refine qq ?_
  try generalize hK : SeqQ _ _ _ _ = K
  refine EvC.reg ?_
  refine qm ?_
  refine qA ?_
  refine qm ?_
  refine EvO.nil ?_
  try subst hK
  try refine qy ?_
  repeat refine qq ?_
  try generalize hK : SeqQ _ _ _ _ = K
  refine EvC.reg ?_
  refine qm ?_
  refine qm ?_
  refine qr fun p12 hp12 => ?_
  refine qf (fo := 6) fun p13 hp13 => ?_
  refine qR ?_
  refine qm ?_
  refine EvO.nil ?_
  try subst hK
  try refine qy ?_
  repeat refine qq ?_
  refine EvC.block ?_
  refine EvC.loop (fun mm fr st => ∃ (i j : Nat) (rest : Trs) (es2 : List Int), fr.clean = ⟨16, [d, out, .int .i64 (at_ : Nat), ixF_Qe fr 3, ixF_Qe fr 4, ixF_Qe fr 5, .int .i64 0, .int .i64 (j : Nat), ixF_Qe fr 8, ixF_Qe fr 9, ixF_Qe fr 10, ixF_Qe fr 11, ixF_Qe fr 12, ixF_Qe fr 13, .int .i64 n.kids, .int .i64 (i : Nat)], []⟩ ∧ Has N S2 st (.lst out 1 (es2.map intC) :: H) ∧ (mm = rest.len) ∧ (i + rest.len = ks.len) ∧ (Seg l j rest.flat) ∧ (rest.ok) ∧ (es2.length = l.length) ∧ (spl es2 j (rest.es j) = spl es (at_ + 1) (ks.es (at_ + 1))) ∧ (j + rest.flat.length = at_ + 1 + ks.flat.length) ∧ (rest.flat.length ≤ m)) (ks.len) ?_ ?_
  ·exact ⟨0, at_ + 1, ks, es, rfl, hH, rfl, by omega, hseg, hks, hel, rfl, rfl, by omega⟩
  rintro mm fr st ⟨i, j, rest, es2, hfr, hH, hmm, hi2, hsg, hrok, hel2, hspl, hj, hrm⟩
  rw [hfr]
  clear hfr
  try generalize ixF_Qe fr = ee
  clear fr
  try refine qy ?_
  repeat refine qq ?_
  try generalize hK : SeqQ _ _ _ _ = K
  refine EvC.reg ?_
  refine qg ?_
  refine EvO.nil ?_
  try subst hK
  try refine qy ?_
  cases rest with
  | nil =>
   simp only [Trs.len] at hi2
   simp only [Trs.flat, List.length_nil] at hj
   simp only [Trs.es, spl_nil] at hspl
   have hcc : decide ((i : Int) < n.kids) = false := by rw [decide_eq_false_iff_not]; omega
   have hat : at_ < es2.length := by omega
   obtain ⟨w, hw⟩ : ∃ w, es2[at_]? = some w := ⟨es2[at_]'hat, List.getElem?_eq_getElem _⟩
   have hr9 := int_get hw
   try refine qy ?_
   repeat refine qq ?_
   refine EvC.cond (v := false) (by dsimp only [Fr.ev, Fr.get, nth, Go.V.look]; rw [hcc]) (fun h => by cases h) (fun _ => ?_)
   try refine qy ?_
   refine EvC.exit ?_
   try refine qy ?_
   repeat refine qq ?_
   try generalize hK : SeqQ _ _ _ _ = K
   refine EvC.reg ?_
   refine qm ?_
   refine qm ?_
   refine qm ?_
   refine qi hH at0 fun p25 hp25 => ?_
   refine EvO.ostore hH rfl (ev rfl) (ev rfl) (by assumption) rfl rfl (by exact at0) (by assumption) (Nat.le_of_ble_eq_true rfl) (by exact .inr rfl) (fun st hH => ?_)
   try dsimp only [u2, u1, u3, u4, setMany, u5, u6, D.cells, Nat.reduceAdd, nodC, intC] at hH
   refine EvO.nil ?_
   try subst hK
   try refine qy ?_
   repeat refine qq ?_
   try generalize hK : SeqQ _ _ _ _ = K
   refine EvC.reg ?_
   refine qm ?_
   refine qm ?_
   refine EvO.nil ?_
   try subst hK
   try refine qy ?_
   refine EvC.ret ⟨fun i h => (by cases h), _, _, _, rfl, leaveD_rw (rfl), ?_⟩
   have hje : j = at_ + (Tr.mk n ks).flat.length := by simp only [Tr.flat, List.length_cons]; omega
   refine ⟨by rw [hje]; rfl, ?_⟩
   have hfin : spl es at_ (Tr.es (.mk n ks) at_) = es2.set at_ ((j : Nat) : Int) := by
    rw [hspl, spl_set (by rw [Trs.es_len]; omega)]
    have : j = at_ + 1 + ks.flat.length := by omega
    rw [this]; rfl
   rw [hfin, List.map_set]
   exact hH0.leaveRwL hS2 hH
  | cons t ts =>
   simp only [Trs.len] at hi2 hmm
   simp only [Trs.flat, List.length_append] at hj hsg hrm
   simp only [Trs.es] at hspl
   simp only [Trs.ok] at hrok
   have hcc : decide ((i : Int) < n.kids) = true := by rw [decide_eq_true_eq]; omega
   have htp := t.flat_pos
   have htz := t.es_len j
   have hzz := ts.es_len (j + t.flat.length)
   have hel3 : (spl es2 j (t.es j)).length = l.length := by rw [spl_len (by omega)]; exact hel2
   try refine qy ?_
   repeat refine qq ?_
   refine EvC.cond (v := true) (by dsimp only [Fr.ev, Fr.get, nth, Go.V.look]; rw [hcc]) (fun _ => ?_) (fun h => by cases h)
   try refine qy ?_
   refine EvC.skip ?_
   try refine qy ?_
   repeat refine qq ?_
   refine EvC.block ?_
   try refine qy ?_
   repeat refine qq ?_
   try generalize hK : SeqQ _ _ _ _ = K
   refine EvC.reg ?_
   refine qm ?_
   refine qm ?_
   refine qm ?_
   obtain ⟨_, st, hev, rfl, hH⟩ := ih t (by omega) hrok.1 hsg.left hel2 hH
   refine EvO.hcall rfl rfl hev (put_T rfl _) ?_
   refine qm ?_
   refine EvO.nil ?_
   try subst hK
   try refine qy ?_
   repeat refine qq ?_
   try generalize hK : SeqQ _ _ _ _ = K
   refine EvC.reg ?_
   refine qA ?_
   refine qm ?_
   refine EvO.nil ?_
   try subst hK
   try refine qy ?_
   exact ⟨mm - 1, by omega, ⟨i + 1, j + t.flat.length, ts, spl es2 j (t.es j), rfl, hH, by omega, by omega, hsg.right, hrok.2, hel3, by rw [← hspl]; have := spl_spl (es := es2) (a := j) (M := t.es j) (M' := ts.es (j + t.flat.length)) (by omega); rw [htz] at this; exact this, by omega, by omega⟩⟩
end Go.Proofs.Ytbdilgkfnacahaa
