/-
 The search that goes back: one step of a try.
-/
import Derived.Test.YtbdilgkfnacahaaGreatJo
import Derived.Test.YtbdilgkfnacahaaGreatUh
namespace Go.Proofs.YtbdilgkfnacahaaGreat
open Go.V Go
set_option maxRecDepth 100000
set_option maxHeartbeats 4000000
set_option linter.unusedSimpArgs false
set_option linter.unusedVariables false

/-- what a frame holds at a slot -/
def ixF_Ba (fr : Go.V.Fr) (k : Nat) : Go.V.D := Go.V.nth .junk fr.loc k

/-- places -/
abbrev Cps := Nat → Int
def capsC (f : Cps) : List D := [.int .i64 (f 0), .int .i64 (f 1), .int .i64 (f 2), .int .i64 (f 3), .int .i64 (f 4), .int .i64 (f 5), .int .i64 (f 6), .int .i64 (f 7), .int .i64 (f 8), .int .i64 (f 9)]
def noCaps : Cps := fun _ => -1
def zeroCaps : Cps := fun _ => 0
def setC (f : Cps) (x : Nat) (v : Int) : Cps := fun j => if j = x then v else f j

/-- a try that is left -/
structure Tr3 where
 pc : Nat
 at_ : Nat
 c : Cps
def tryC (t : Tr3) : List D := .int .i64 (t.pc : Nat) :: .int .i64 (t.at_ : Nat) :: capsC t.c

theorem set_caps {a b : D} {f : Cps} {x : Nat} {v : Int} (hx : x < 10) : setMany (a :: b :: capsC f) (2 + x) [.int .i64 v] = a :: b :: capsC (setC f x v) := by
 match x, hx with
 | 0, _ => rfl
 | 1, _ => rfl
 | 2, _ => rfl
 | 3, _ => rfl
 | 4, _ => rfl
 | 5, _ => rfl
 | 6, _ => rfl
 | 7, _ => rfl
 | 8, _ => rfl
 | 9, _ => rfl

/-- what a step of a try comes to: it is found; or what is put behind -/
inductive Res where
 | found
 | more (l : List Tr3)

/-- a step: gs: the runes with their bytes; pl: the places -/
def stepS (code : List PIns) (gs : List (Nat × Nat)) (pl : List Int) (t : Tr3) : Res :=
 match code[t.pc]? with
 | none => .more []
 | some i =>
  if i.op = 7 then .found
  else if i.op = 2 then .more [⟨i.x.toNat, t.at_, t.c⟩, ⟨i.y.toNat, t.at_, t.c⟩]
  else if i.op = 3 then .more [⟨i.x.toNat, t.at_, t.c⟩]
  else if i.op = 4 then .more [⟨t.pc + 1, t.at_, setC t.c i.x.toNat (pl.getD t.at_ 0)⟩]
  else if i.op = 5 then .more (if t.at_ = 0 then [⟨t.pc + 1, t.at_, t.c⟩] else [])
  else if i.op = 6 then .more (if t.at_ = gs.length then [⟨t.pc + 1, t.at_, t.c⟩] else [])
  else .more (if t.at_ < gs.length ∧ hasS i.rs ((gs.getD t.at_ (0, 0)).1 : Nat) = true then [⟨t.pc + 1, t.at_ + 1, t.c⟩] else [])

/-- what a shaped instruction is -/
theorem shaped_cases {n ns pc : Nat} {i : PIns} (h : shapedS n ns pc i = true) :
  i.op = 7 ∨ (i.op = 2 ∧ (0 ≤ i.x ∧ i.x < (n : Int)) ∧ 0 ≤ i.y ∧ i.y < (n : Int)) ∨ (i.op = 3 ∧ 0 ≤ i.x ∧ i.x < (n : Int)) ∨ (i.op = 4 ∧ pc + 1 < n ∧ 0 ≤ i.x ∧ i.x < 10) ∨ (i.op = 5 ∧ pc + 1 < n) ∨ (i.op = 6 ∧ pc + 1 < n) ∨ (i.op = 1 ∧ pc + 1 < n) := by
 unfold shapedS at h
 split at h
 ·rename_i h1
  simp only [Bool.and_eq_true, decide_eq_true_eq] at h
  refine .inr (.inr (.inr (.inr (.inr (.inr ⟨h1, ?_⟩)))))
  omega
 ·simp only [Bool.and_eq_true] at h
  obtain ⟨_, h⟩ := h
  split at h
  ·rename_i h2
   simp only [Bool.and_eq_true] at h
   exact .inr (.inl ⟨h2, inS_iff.1 h.1, inS_iff.1 h.2⟩)
  ·simp only [Bool.and_eq_true] at h
   obtain ⟨_, h⟩ := h
   split at h
   ·rename_i h3
    exact .inr (.inr (.inl ⟨h3, inS_iff.1 h⟩))
   ·split at h
    ·rename_i h4
     simp only [Bool.and_eq_true, decide_eq_true_eq] at h
     exact .inr (.inr (.inr (.inl ⟨h4, by omega, inS_iff.1 h.2⟩)))
    ·split at h
     ·rename_i h5
      simp only [Bool.and_eq_true, decide_eq_true_eq] at h
      rcases h5 with h5 | h5
      ·exact .inr (.inr (.inr (.inr (.inl ⟨h5, by omega⟩))))
      ·exact .inr (.inr (.inr (.inr (.inr (.inl ⟨h5, by omega⟩)))))
     ·split at h
      ·rename_i h7
       exact .inl h7
      ·cases h

theorem try_len (l : List Tr3) : ∀ e ∈ l.map tryC, e.length = 12 := by
 intro e he; obtain ⟨x, _, rfl⟩ := List.mem_map.1 he; rfl
theorem try_refs (l : List Tr3) : refs (l.map tryC).flatten = 0 := by
 induction l with
 | nil => rfl
 | cons x l ih => simp only [List.map_cons, List.flatten_cons, tryC, capsC, List.cons_append, List.nil_append, refs, D.ref, ih]; rfl

/-- what a step leaves -/
def stepPost (N : Nat) (S : St) (k : Nat) (p : Pg) (gs : List (Nat × Nat)) (plD seenD : D) (pls : List Int) (H : List Ent) (t : Tr3) (stk : List Tr3) (d : D) (st' : St) : Prop :=
 match stepS p.code gs pls t with
 | .found => d = .tup [.agg (capsC t.c), .bool true] ∧ ∃ leftD, Has N S st' (.box k (.mem 0 false [p.cd, p.sd, gotsD gs, plD, seenD, leftD]) :: .lst leftD 12 (stk.reverse.map tryC) :: .lst plD 1 (pls.map intC) :: H)
 | .more l => d = .tup [.agg (capsC zeroCaps), .bool false] ∧ ∃ leftD, Has N S st' (.box k (.mem 0 false [p.cd, p.sd, gotsD gs, plD, seenD, leftD]) :: .lst leftD 12 ((l ++ stk).reverse.map tryC) :: .lst plD 1 (pls.map intC) :: H)

theorem step_ev {N : Nat} {S st : St} {H : List Ent} {k : Nat} {p : Pg} {gs : List (Nat × Nat)} {plD seenD leftD : D} {pls : List Int} {t : Tr3} {stk : List Tr3} {i : PIns} (hF : S.flr ≤ N) (hp : p.ok) (hi : p.code[t.pc]? = some i) (hsh : shapedS p.code.length p.starts.length t.pc i = true) (hgl : gs.length ≤ 1048576) (hat : t.at_ ≤ gs.length) (hpl : pls.length = gs.length + 1) (hsl : stk.length ≤ 536870912)
  (hH : Has N S st (.box k (.mem 0 false [p.cd, p.sd, gotsD gs, plD, seenD, leftD]) :: .lst leftD 12 (stk.reverse.map tryC) :: .lst plD 1 (pls.map intC) :: H)) :
  ∃ d st', Ev pv 53 [.ptr k 0 0, .agg (tryC t)] st d st' ∧ stepPost N S k p gs plD seenD pls H t stk d st' := by
 have hc := hp.c.arg N S
 have hlen := hp.cl
 have hgr : Arg N S 2 (gotsD gs) (gs.map gotC) := Arg.pure (fun st => gots_rows st gs)
 have hr := ins_get hi
 have hrd := (hp.i i (List.mem_of_getElem? hi)).1
 have hra := hrd.arg N S
 have hrl := (hp.i i (List.mem_of_getElem? hi)).2
 have hlt := lt_get hi
 have hcases := shaped_cases hsh
 obtain ⟨op, x, y, rd, rs⟩ := i
 obtain ⟨pc, at_, c⟩ := t
 simp only at *
 refine Ev.mkE rfl fi53 rfl rfl rfl ?_
 dsimp only [List.cons_append, List.nil_append, List.length, Nat.reduceSub, Nat.reduceAdd, List.replicate_succ, List.replicate_zero]
 change EvC _ _ _ _ st _
 try refine qy ?_
 repeat refine qq ?_
 try generalize hK : SeqQ _ _ _ _ = K
 refine EvC.reg ?_
 refine qb hH fun k3 st hk3 hH => ?_
 try dsimp only [u2, u1, u3, u4, setMany, u5, u6, D.cells, Nat.reduceAdd, insC, intC, tryC, capsC] at hH
 refine qa hH fun k4 st hk4 hH => ?_
 try dsimp only [u2, u1, u3, u4, setMany, u5, u6, D.cells, Nat.reduceAdd, insC, intC, tryC, capsC] at hH
 refine qm ?_
 refine EvO.nil ?_
 try subst hK
 try refine qy ?_
 repeat refine qq ?_
 try generalize hK : SeqQ _ _ _ _ = K
 refine EvC.reg ?_
 refine qm ?_
 refine qg ?_
 refine qp (o := 0) ?_
 refine qp (o := 0) ?_
 refine ql hH at2 ?_
 refine qp (o := 0) ?_
 refine ql hH at1 ?_
 refine qr fun p15 hp15 => ?_
 refine EvO.rloadS rfl (ev rfl) (by assumption) rfl (by dsimp only [Fr.put, List.set_cons_succ, List.set_cons_zero] <;> rfl) ?_
 refine qa hH fun k6 st hk6 hH => ?_
 try dsimp only [u2, u1, u3, u4, setMany, u5, u6, D.cells, Nat.reduceAdd, insC, intC, tryC, capsC] at hH
 refine qS hH at0 fun st hH => ?_
 try dsimp only [u2, u1, u3, u4, setMany, u5, u6, D.cells, Nat.reduceAdd, insC, intC, tryC, capsC] at hH
 refine EvO.nil ?_
 try subst hK
 try refine qy ?_
 repeat refine qq ?_
 try generalize hK : SeqQ _ _ _ _ = K
 refine EvC.reg ?_
 refine EvO.hloadS (m := 12) hH rfl (ev rfl) (by exact at2) (by dsimp only [List.drop_succ_cons, List.drop_zero, List.take_succ_cons, List.take_zero, insC, intC, tryC, capsC] <;> rfl) rfl rfl (by dsimp only [Fr.put, List.set_cons_succ, List.set_cons_zero] <;> rfl) ?_
 refine qa hH fun k7 st hk7 hH => ?_
 try dsimp only [u2, u1, u3, u4, setMany, u5, u6, D.cells, Nat.reduceAdd, insC, intC, tryC, capsC] at hH
 refine qS hH at0 fun st hH => ?_
 try dsimp only [u2, u1, u3, u4, setMany, u5, u6, D.cells, Nat.reduceAdd, insC, intC, tryC, capsC] at hH
 refine EvO.nil ?_
 try subst hK
 try refine qy ?_
 repeat refine qq ?_
 try generalize hK : SeqQ _ _ _ _ = K
 refine EvC.reg ?_
 refine qp (o := 0) ?_
 refine ql hH at0 ?_
 refine qA ?_
 refine qp (o := 0) ?_
 refine qT hH at0 fun st hH => ?_
 try dsimp only [u2, u1, u3, u4, setMany, u5, u6, D.cells, Nat.reduceAdd, insC, intC, tryC, capsC] at hH
 refine EvO.nil ?_
 try subst hK
 try refine qy ?_
 repeat refine qq ?_
 try generalize hK : SeqQ _ _ _ _ = K
 refine EvC.reg ?_
 refine qp (o := 0) ?_
 refine ql hH at1 ?_
 refine EvO.nil ?_
 try subst hK
 try refine qy ?_
 have hze : D.agg [.int .i64 0, .int .i64 0, .int .i64 0, .int .i64 0, .int .i64 0, .int .i64 0, .int .i64 0, .int .i64 0, .int .i64 0, .int .i64 0] = .agg (capsC zeroCaps) := rfl
 try refine qy ?_
 repeat refine qq ?_
 refine EvC.merge (fun fr st => ∃ (t' : Tr3) (tmp : List (Nat × D)), fr = ⟨24, [.ptr k 0 0, ixF_Ba fr 1, ixF_Ba fr 2, .ptr k3 0 0, .ptr k4 0 0, .bool false, .ptr k6 0 0, .ptr k7 0 0, ixF_Ba fr 8, ixF_Ba fr 9, ixF_Ba fr 10, ixF_Ba fr 11, ixF_Ba fr 12, ixF_Ba fr 13, ixF_Ba fr 14, ixF_Ba fr 15, ixF_Ba fr 16, ixF_Ba fr 17, ixF_Ba fr 18, ixF_Ba fr 19, ixF_Ba fr 20, ixF_Ba fr 21, ixF_Ba fr 22, ixF_Ba fr 23], tmp⟩ ∧ Has N S st (.box k7 (.mem 0 false (tryC t')) :: .box k6 (.mem 0 false [.int .i64 op, .int .i64 x, .int .i64 y, rd]) :: .box k4 (.mem 0 false (capsC zeroCaps)) :: .box k3 (.mem 0 false (tryC ⟨pc, at_, c⟩)) :: .box k (.mem 0 false [p.cd, p.sd, gotsD gs, plD, seenD, leftD]) :: .lst leftD 12 (stk.reverse.map tryC) :: .lst plD 1 (pls.map intC) :: H) ∧ (stepS p.code gs pls ⟨pc, at_, c⟩ = .more [t'])) ?_ ?_
 ·try refine qy ?_
  repeat refine qq ?_
  refine EvC.block ?_
  try refine qy ?_
  repeat refine qq ?_
  try generalize hK : SeqQ _ _ _ _ = K
  refine EvC.reg ?_
  refine qg ?_
  refine qm ?_
  refine EvO.nil ?_
  try subst hK
  try refine qy ?_
  repeat refine qq ?_
  refine qc (fun h7 => ?_) (fun h7 => ?_) <;> try simp only [cs] at h7
  ·have hS : stepS p.code gs pls ⟨pc, at_, c⟩ = .found := by unfold stepS; simp only [hi]; rw [if_pos h7]
   try refine qy ?_
   repeat refine qq ?_
   try generalize hK : SeqQ _ _ _ _ = K
   refine EvC.reg ?_
   refine qp (o := 2) ?_
   refine EvO.hloadS (m := 10) hH rfl (ev rfl) (by exact at3) (by dsimp only [List.drop_succ_cons, List.drop_zero, List.take_succ_cons, List.take_zero, insC, intC, tryC, capsC] <;> rfl) rfl rfl (put_T rfl _) ?_
   refine qS hH at2 fun st hH => ?_
   try dsimp only [u2, u1, u3, u4, setMany, u5, u6, D.cells, Nat.reduceAdd, insC, intC, tryC, capsC] at hH
   refine qm ?_
   refine EvO.nil ?_
   try subst hK
   try refine qy ?_
   refine EvC.ret ⟨fun i h => (by cases h), _, _, _, hH.resCellT rfl at2 rfl rfl, rfl, ?_⟩
   unfold stepPost; rw [hS]
   exact ⟨rfl, leftD, hH.drop 4⟩
  ·try refine qy ?_
   repeat refine qq ?_
   try generalize hK : SeqQ _ _ _ _ = K
   refine EvC.reg ?_
   refine qg ?_
   refine qm ?_
   refine EvO.nil ?_
   try subst hK
   try refine qy ?_
   repeat refine qq ?_
   refine qc (fun h2 => ?_) (fun h2 => ?_) <;> try simp only [cs] at h2
   ·obtain ⟨_, ⟨hx0, hx1⟩, hy0, hy1⟩ := (hcases.resolve_left h7).resolve_right (by omega)
    obtain ⟨xn, rfl⟩ := Int.eq_ofNat_of_zero_le hx0
    obtain ⟨yn, rfl⟩ := Int.eq_ofNat_of_zero_le hy0
    have hS : stepS p.code gs pls ⟨pc, at_, c⟩ = .more [⟨xn, at_, c⟩, ⟨yn, at_, c⟩] := by unfold stepS; simp only [hi]; rw [if_neg h7, if_pos h2]; rfl
    try refine qy ?_
    repeat refine qq ?_
    try generalize hK : SeqQ _ _ _ _ = K
    refine EvC.reg ?_
    refine qm ?_
    refine qm ?_
    refine qg ?_
    refine qp (o := 5) ?_
    refine ql hH at4 ?_
    refine qp (o := 2) ?_
    refine ql hH at1 ?_
    refine qp (o := 1) ?_
    refine ql hH at3 ?_
    refine qp (o := 2) ?_
    refine EvO.hloadS (m := 10) hH rfl (ev rfl) (by exact at3) (by dsimp only [List.drop_succ_cons, List.drop_zero, List.take_succ_cons, List.take_zero, insC, intC, tryC, capsC] <;> rfl) rfl rfl (put_T rfl _) ?_
    refine EvO.go (d := .agg (tryC ⟨yn, at_, c⟩)) (st1 := _) rfl rfl rfl (put_T rfl _) ?_
    refine qp (o := 1) ?_
    refine ql hH at1 ?_
    refine qp (o := 1) ?_
    refine ql hH at3 ?_
    refine qp (o := 2) ?_
    refine EvO.hloadS (m := 10) hH rfl (ev rfl) (by exact at3) (by dsimp only [List.drop_succ_cons, List.drop_zero, List.take_succ_cons, List.take_zero, insC, intC, tryC, capsC] <;> rfl) rfl rfl (put_T rfl _) ?_
    refine EvO.go (d := .agg (tryC ⟨xn, at_, c⟩)) (st1 := _) rfl rfl rfl (put_T rfl _) ?_
    refine qh (s := 12) (vs := [_, _]) hH fun k49 st hk49 hH => ?_
    try dsimp only [u2, u1, u3, u4, setMany, u5, u6, D.cells, Nat.reduceAdd, insC, intC, tryC, capsC] at hH
    refine qP hH at6 (hH.rows at0) fun x50 st hH => ?_
    try dsimp only [u2, u1, u3, u4, setMany, u5, u6, D.cells, Nat.reduceAdd, insC, intC, tryC, capsC] at hH
    refine qg ?_
    refine qp (o := 5) ?_
    refine qT hH at5 (fun st hH => ?_) (hcs := hH.ocells at6)
    try dsimp only [u2, u1, u3, u4, setMany, u5, u6, D.cells, Nat.reduceAdd, insC, intC, tryC, capsC] at hH
    refine EvO.nil ?_
    try subst hK
    try refine qy ?_
    repeat refine qq ?_
    try generalize hK : SeqQ _ _ _ _ = K
    refine EvC.reg ?_
    refine EvO.go (d := .agg (capsC zeroCaps)) (st1 := _) rfl rfl rfl (put_T rfl _) ?_
    refine qS hH at3 fun st hH => ?_
    try dsimp only [u2, u1, u3, u4, setMany, u5, u6, D.cells, Nat.reduceAdd, insC, intC, tryC, capsC] at hH
    refine qm ?_
    refine EvO.nil ?_
    try subst hK
    try refine qy ?_
    refine EvC.ret ⟨fun i h => (by cases h), _, _, _, hH.resCellT rfl at3 rfl rfl, rfl, ?_⟩
    unfold stepPost; rw [hS]
    refine ⟨rfl, x50, ?_⟩
    have hrv : ((([⟨xn, at_, c⟩, ⟨yn, at_, c⟩] : List Tr3) ++ stk).reverse.map tryC) = stk.reverse.map tryC ++ [tryC ⟨yn, at_, c⟩, tryC ⟨xn, at_, c⟩] := by simp
    rw [hrv]
    exact hH.drop 5
   ·try refine qy ?_
    repeat refine qq ?_
    try generalize hK : SeqQ _ _ _ _ = K
    refine EvC.reg ?_
    refine qg ?_
    refine qm ?_
    refine EvO.nil ?_
    try subst hK
    try refine qy ?_
    repeat refine qq ?_
    refine qc (fun h3 => ?_) (fun h3 => ?_) <;> try simp only [cs] at h3
    ·obtain ⟨_, hx0, hx1⟩ := ((hcases.resolve_left h7).resolve_left (by omega)).resolve_right (by omega)
     obtain ⟨xn, rfl⟩ := Int.eq_ofNat_of_zero_le hx0
     try refine qy ?_
     repeat refine qq ?_
     try generalize hK : SeqQ _ _ _ _ = K
     refine EvC.reg ?_
     refine qp (o := 1) ?_
     refine ql hH at1 ?_
     refine qp (o := 0) ?_
     refine qT hH at0 fun st hH => ?_
     try dsimp only [u2, u1, u3, u4, setMany, u5, u6, D.cells, Nat.reduceAdd, insC, intC, tryC, capsC] at hH
     refine EvO.nil ?_
     try subst hK
     try refine qy ?_
     exact ⟨⟨xn, at_, c⟩, _, rfl, hH, by unfold stepS; simp only [hi]; rw [if_neg h7, if_neg h2, if_pos h3]; rfl⟩
    ·try refine qy ?_
     repeat refine qq ?_
     try generalize hK : SeqQ _ _ _ _ = K
     refine EvC.reg ?_
     refine qg ?_
     refine qm ?_
     refine EvO.nil ?_
     try subst hK
     try refine qy ?_
     repeat refine qq ?_
     refine qc (fun h4 => ?_) (fun h4 => ?_) <;> try simp only [cs] at h4
     ·obtain ⟨_, hpc1, hx0, hx1⟩ := (((hcases.resolve_left h7).resolve_left (by omega)).resolve_left (by omega)).resolve_right (by omega)
      obtain ⟨xn, rfl⟩ := Int.eq_ofNat_of_zero_le hx0
      obtain ⟨pv0, hpv⟩ : ∃ v, pls[at_]? = some v := ⟨pls[at_]'(by omega), List.getElem?_eq_getElem _⟩
      have hr1 := int_get hpv
      try refine qy ?_
      repeat refine qq ?_
      try generalize hK : SeqQ _ _ _ _ = K
      refine EvC.reg ?_
      refine qp (o := 1) ?_
      refine ql hH at1 ?_
      refine qm ?_
      refine qg ?_
      refine qp (o := 3) ?_
      refine ql hH at4 ?_
      refine qp (o := 1) ?_
      refine ql hH at3 ?_
      refine qi hH at6 fun p69 hp69 => ?_
      refine qo hH at6 ?_
      refine qp (o := 2) ?_
      refine EvO.harr (m := 10) (s := 1) (i := xn) (o := 2 + xn) rfl (ev rfl) (ev rfl) rfl rfl (by omega) (by omega) (put_T rfl _) ?_
      refine EvO.hstore hH rfl (ev rfl) (ev rfl) rfl (by exact rfl) at0 (by show 2 + xn + 1 ≤ 12; omega) (.inl hF) (fun st hH => ?_)
      change Has _ _ _ (.box k7 (.mem 0 false (setMany (_ :: _ :: capsC c) (2 + xn) [.int .i64 pv0])) :: _) at hH
      rw [set_caps (by omega)] at hH
      refine EvO.nil ?_
      try subst hK
      try refine qy ?_
      refine ⟨⟨pc + 1, at_, setC c xn pv0⟩, _, rfl, hH, by unfold stepS; simp only [hi]; rw [if_neg h7, if_neg h2, if_neg h3, if_pos h4]; simp [List.getD_eq_getElem?_getD, hpv]⟩
     ·try refine qy ?_
      repeat refine qq ?_
      try generalize hK : SeqQ _ _ _ _ = K
      refine EvC.reg ?_
      refine qg ?_
      refine qm ?_
      refine EvO.nil ?_
      try subst hK
      try refine qy ?_
      repeat refine qq ?_
      refine qc (fun h5 => ?_) (fun h5 => ?_) <;> try simp only [cs] at h5
      ·try refine qy ?_
       repeat refine qq ?_
       try generalize hK : SeqQ _ _ _ _ = K
       refine EvC.reg ?_
       refine qp (o := 1) ?_
       refine ql hH at3 ?_
       refine qg ?_
       refine EvO.nil ?_
       try subst hK
       try refine qy ?_
       by_cases ha : at_ = 0
       ·subst ha
        try refine qy ?_
        repeat refine qq ?_
        refine EvC.cond (v := false) (by dsimp only [Fr.ev, Fr.get, nth, Go.V.look]; rfl) (fun h => by cases h) (fun _ => ?_)
        try refine qy ?_
        refine EvC.skip ?_
        try refine qy ?_
        exact ⟨⟨pc + 1, 0, c⟩, _, rfl, hH, by unfold stepS; simp only [hi]; rw [if_neg h7, if_neg h2, if_neg h3, if_neg h4, if_pos h5]; rfl⟩
       ·try refine qy ?_
        repeat refine qq ?_
        refine EvC.cond (v := true) (by dsimp only [Fr.ev, Fr.get, nth, Go.V.look]; simp; omega) (fun _ => ?_) (fun h => by cases h)
        try refine qy ?_
        repeat refine qq ?_
        try generalize hK : SeqQ _ _ _ _ = K
        refine EvC.reg ?_
        refine EvO.go (d := .agg (capsC zeroCaps)) (st1 := _) rfl rfl rfl (put_T rfl _) ?_
        refine qS hH at2 fun st hH => ?_
        try dsimp only [u2, u1, u3, u4, setMany, u5, u6, D.cells, Nat.reduceAdd, insC, intC, tryC, capsC] at hH
        refine qm ?_
        refine EvO.nil ?_
        try subst hK
        try refine qy ?_
        refine EvC.ret ⟨fun i h => (by cases h), _, _, _, hH.resCellT rfl at2 rfl rfl, rfl, ?_⟩
        have hS : stepS p.code gs pls ⟨pc, at_, c⟩ = .more [] := by unfold stepS; simp only [hi]; rw [if_neg h7, if_neg h2, if_neg h3, if_neg h4, if_pos h5, if_neg ha]
        unfold stepPost; rw [hS]
        exact ⟨rfl, leftD, hH.drop 4⟩
      ·try refine qy ?_
       repeat refine qq ?_
       try generalize hK : SeqQ _ _ _ _ = K
       refine EvC.reg ?_
       refine qg ?_
       refine qm ?_
       refine EvO.nil ?_
       try subst hK
       try refine qy ?_
       repeat refine qq ?_
       refine qc (fun h6 => ?_) (fun h6 => ?_) <;> try simp only [cs] at h6
       ·try refine qy ?_
        repeat refine qq ?_
        try generalize hK : SeqQ _ _ _ _ = K
        refine EvC.reg ?_
        refine qp (o := 1) ?_
        refine ql hH at3 ?_
        refine qm ?_
        refine qg ?_
        refine qp (o := 2) ?_
        refine ql hH at4 ?_
        refine qn ?_
        try simp only [List.length_map, List.length_append, List.length_cons, List.length_nil, List.length_set, List.length_replicate, List.length_reverse]
        refine qg ?_
        refine EvO.nil ?_
        try subst hK
        try refine qy ?_
        by_cases ha : at_ = gs.length
        ·try refine qy ?_
         repeat refine qq ?_
         refine EvC.cond (v := false) (by dsimp only [Fr.ev, Fr.get, nth, Go.V.look]; rw [ha]; simp) (fun h => by cases h) (fun _ => ?_)
         try refine qy ?_
         refine EvC.skip ?_
         try refine qy ?_
         exact ⟨⟨pc + 1, at_, c⟩, _, rfl, hH, by unfold stepS; simp only [hi]; rw [if_neg h7, if_neg h2, if_neg h3, if_neg h4, if_neg h5, if_pos h6, if_pos ha]⟩
        ·try refine qy ?_
         repeat refine qq ?_
         refine EvC.cond (v := true) (by dsimp only [Fr.ev, Fr.get, nth, Go.V.look]; simp; omega) (fun _ => ?_) (fun h => by cases h)
         try refine qy ?_
         repeat refine qq ?_
         try generalize hK : SeqQ _ _ _ _ = K
         refine EvC.reg ?_
         refine EvO.go (d := .agg (capsC zeroCaps)) (st1 := _) rfl rfl rfl (put_T rfl _) ?_
         refine qS hH at2 fun st hH => ?_
         try dsimp only [u2, u1, u3, u4, setMany, u5, u6, D.cells, Nat.reduceAdd, insC, intC, tryC, capsC] at hH
         refine qm ?_
         refine EvO.nil ?_
         try subst hK
         try refine qy ?_
         refine EvC.ret ⟨fun i h => (by cases h), _, _, _, hH.resCellT rfl at2 rfl rfl, rfl, ?_⟩
         have hS : stepS p.code gs pls ⟨pc, at_, c⟩ = .more [] := by unfold stepS; simp only [hi]; rw [if_neg h7, if_neg h2, if_neg h3, if_neg h4, if_neg h5, if_pos h6, if_neg ha]
         unfold stepPost; rw [hS]
         exact ⟨rfl, leftD, hH.drop 4⟩
       ·have h1 : op = 1 := by omega
        try refine qy ?_
        repeat refine qq ?_
        try generalize hK : SeqQ _ _ _ _ = K
        refine EvC.reg ?_
        refine qg ?_
        refine qm ?_
        refine EvO.nil ?_
        try subst hK
        try refine qy ?_
        repeat refine qq ?_
        refine EvC.cond (v := true) (by dsimp only [Fr.ev, Fr.get, nth, Go.V.look]; simp [h1]) (fun _ => ?_) (fun h => by cases h)
        try refine qy ?_
        have hno : ∀ b, stepS p.code gs pls ⟨pc, at_, c⟩ = .more b ↔ (.more (if at_ < gs.length ∧ hasS rs ((gs.getD at_ (0, 0)).1 : Nat) = true then [⟨pc + 1, at_ + 1, c⟩] else []) : Res) = .more b := by
         intro b; unfold stepS; simp only [hi]; rw [if_neg h7, if_neg h2, if_neg h3, if_neg h4, if_neg h5, if_neg h6]
        by_cases ha : at_ < gs.length
        ·obtain ⟨g, hg⟩ : ∃ g, gs[at_]? = some g := ⟨gs[at_]'ha, List.getElem?_eq_getElem _⟩
         have hr1 : (gs.map gotC)[at_]? = some (gotC g) := by rw [List.getElem?_map, hg]; rfl
         have hgd : gs.getD at_ (0, 0) = g := by rw [List.getD_eq_getElem?_getD, hg]; rfl
         have hg8 : decide ((at_ : Int) ≥ (gs.length : Nat)) = false := by rw [decide_eq_false]; simp; omega
         rw [hgd] at hno
         try refine qy ?_
         repeat refine qq ?_
         refine EvC.cutT 114 (.bool (!hasS rs (g.1 : Nat))) [] ?_ (fun ff tmp htmp => ?_)
         ·refine qp (o := 1) ?_
          refine ql hH at3 ?_
          refine qm ?_
          refine qg ?_
          refine qp (o := 2) ?_
          refine ql hH at4 ?_
          refine qn ?_
          try simp only [List.length_map, List.length_append, List.length_cons, List.length_nil, List.length_set, List.length_replicate, List.length_reverse]
          refine qg ?_
          refine qm ?_
          refine qp (o := 3) ?_ (hg := wi hg8)
          refine ql hH at1 ?_ (hg := wi hg8)
          refine qm ?_ (hg := wi hg8)
          refine qg ?_ (hg := wi hg8)
          refine qp (o := 2) ?_ (hg := wi hg8)
          refine ql hH at4 ?_ (hg := wi hg8)
          refine qp (o := 1) ?_ (hg := wi hg8)
          refine ql hH at3 ?_ (hg := wi hg8)
          refine qr (fun p109 hp109 => ?_) (hg := wi hg8)
          refine qf (fo := 0) (fun p110 hp110 => ?_) (hg := wi hg8)
          refine qR ?_ (hg := wi hg8)
          refine EvO.hcall (wantD_is rfl rfl rfl hg8) rfl (has_ev (hra.rows hH) (by omega)) (put_T rfl _) ?_
          refine qg ?_ (hg := wi hg8)
          refine qu hg8 ?_
          refine EvO.nil (leafT ?_ ?_)
          ·try dsimp only [setW, List.foldl, nth, u2, u1]
           all_goals (first | rfl | simp)
          ·try dsimp only [Fr.putO, Fr.put, Fr.clean, Fr.ev, Fr.get, nth, Go.V.look, u1, u2, v1, v2, v3, v4, v5, v6, v7, List.length, u3, u4, Nat.reduceSub, Nat.reduceAdd, List.map]
           all_goals (first | rfl | (simp [hg8]; done) | (simp_all; done) | (simp [hg8]; omega) | (simp_all; omega))
         try dsimp only [setW, List.foldl, nth, u2, u1]
         try dsimp only [Fr.putO, Fr.put, Fr.clean, Fr.ev, Fr.get, nth, Go.V.look, u1, u2, v1, v2, v3, v4, v5, v6, v7, List.length, u3, u4, Nat.reduceSub, Nat.reduceAdd, List.map]
         try refine qy ?_
         repeat refine qq ?_
         refine qc (fun hh => ?_) (fun hh => ?_) <;> try simp only [cs] at hh
         ·try refine qy ?_
          repeat refine qq ?_
          try generalize hK : SeqQ _ _ _ _ = K
          refine EvC.reg ?_
          refine EvO.go (d := .agg (capsC zeroCaps)) (st1 := _) rfl rfl rfl (put_T rfl _) ?_
          refine qS hH at2 fun st hH => ?_
          try dsimp only [u2, u1, u3, u4, setMany, u5, u6, D.cells, Nat.reduceAdd, insC, intC, tryC, capsC] at hH
          refine qm ?_
          refine EvO.nil ?_
          try subst hK
          try refine qy ?_
          refine EvC.ret ⟨fun i h => (by cases h), _, _, _, hH.resCellT rfl at2 rfl rfl, rfl, ?_⟩
          have hS := (hno []).2 (by rw [if_neg (by rintro ⟨_, h⟩; rw [h] at hh; cases hh)])
          unfold stepPost; rw [hS]
          exact ⟨rfl, leftD, hH.drop 4⟩
         ·refine EvC.skip ?_
          try refine qy ?_
          repeat refine qq ?_
          try generalize hK : SeqQ _ _ _ _ = K
          refine EvC.reg ?_
          refine qp (o := 1) ?_
          refine ql hH at0 ?_
          refine qA ?_
          refine qp (o := 1) ?_
          refine qT hH at0 fun st hH => ?_
          try dsimp only [u2, u1, u3, u4, setMany, u5, u6, D.cells, Nat.reduceAdd, insC, intC, tryC, capsC] at hH
          refine EvO.nil ?_
          try subst hK
          try refine qy ?_
          exact ⟨⟨pc + 1, at_ + 1, c⟩, _, rfl, hH, (hno _).2 (by rw [if_pos ⟨ha, by simpa using hh⟩])⟩
        ·have hg8 : decide ((at_ : Int) ≥ (gs.length : Nat)) = true := by rw [decide_eq_true]; simp; omega
         try refine qy ?_
         repeat refine qq ?_
         refine EvC.cutT 114 (.bool true) [] ?_ (fun ff tmp htmp => ?_)
         ·refine qp (o := 1) ?_
          refine ql hH at3 ?_
          refine qm ?_
          refine qg ?_
          refine qp (o := 2) ?_
          refine ql hH at4 ?_
          refine qn ?_
          try simp only [List.length_map, List.length_append, List.length_cons, List.length_nil, List.length_set, List.length_replicate, List.length_reverse]
          refine qg ?_
          refine qm ?_
          refine qs ?_ (hg := wn hg8)
          refine qs ?_ (hg := wn hg8)
          refine qs ?_ (hg := wn hg8)
          refine qs ?_ (hg := wn hg8)
          refine qs ?_ (hg := wn hg8)
          refine qs ?_ (hg := wn hg8)
          refine qs ?_ (hg := wn hg8)
          refine qs ?_ (hg := wn hg8)
          refine qs ?_ (hg := wn hg8)
          refine qs ?_ (hg := wn hg8)
          refine qs ?_ (hg := wn hg8)
          refine qs ?_ (hg := wn hg8)
          refine qs ?_ (hg := wn hg8)
          refine qt hg8 ?_
          refine EvO.nil (leafT ?_ ?_)
          ·try dsimp only [setW, List.foldl, nth, u2, u1]
           all_goals (first | rfl | simp)
          ·try dsimp only [Fr.putO, Fr.put, Fr.clean, Fr.ev, Fr.get, nth, Go.V.look, u1, u2, v1, v2, v3, v4, v5, v6, v7, List.length, u3, u4, Nat.reduceSub, Nat.reduceAdd, List.map]
           all_goals (first | rfl | (simp [hg8]; done) | (simp_all; done) | (simp [hg8]; omega) | (simp_all; omega))
         try dsimp only [setW, List.foldl, nth, u2, u1]
         try dsimp only [Fr.putO, Fr.put, Fr.clean, Fr.ev, Fr.get, nth, Go.V.look, u1, u2, v1, v2, v3, v4, v5, v6, v7, List.length, u3, u4, Nat.reduceSub, Nat.reduceAdd, List.map]
         try refine qy ?_
         repeat refine qq ?_
         refine EvC.cond (v := true) (by assumption) (fun _ => ?_) (fun h => by cases h)
         try refine qy ?_
         repeat refine qq ?_
         try generalize hK : SeqQ _ _ _ _ = K
         refine EvC.reg ?_
         refine EvO.go (d := .agg (capsC zeroCaps)) (st1 := _) rfl rfl rfl (put_T rfl _) ?_
         refine qS hH at2 fun st hH => ?_
         try dsimp only [u2, u1, u3, u4, setMany, u5, u6, D.cells, Nat.reduceAdd, insC, intC, tryC, capsC] at hH
         refine qm ?_
         refine EvO.nil ?_
         try subst hK
         try refine qy ?_
         refine EvC.ret ⟨fun i h => (by cases h), _, _, _, hH.resCellT rfl at2 rfl rfl, rfl, ?_⟩
         have hS := (hno []).2 (by rw [if_neg (fun h => ha h.1)])
         unfold stepPost; rw [hS]
         exact ⟨rfl, leftD, hH.drop 4⟩
 ·rintro fr st ⟨t', tmp, hfr, hH, hS⟩
  rw [hfr]
  clear hfr
  try generalize ixF_Ba fr = ee
  clear fr
  try refine qy ?_
  obtain ⟨pc', at', c'⟩ := t'
  dsimp only [tryC, capsC] at hH
  try refine qy ?_
  repeat refine qq ?_
  try generalize hK : SeqQ _ _ _ _ = K
  refine EvC.reg ?_
  refine qm ?_
  refine qm ?_
  refine qg ?_
  refine qp (o := 5) ?_
  refine ql hH at4 ?_
  refine EvO.hloadS (m := 12) hH rfl (ev rfl) (by exact at0) (by dsimp only [List.drop_succ_cons, List.drop_zero, List.take_succ_cons, List.take_zero, insC, intC, tryC, capsC] <;> rfl) rfl rfl (put_T rfl _) ?_
  refine qh (s := 12) (vs := [_]) hH fun k126 st hk126 hH => ?_
  try dsimp only [u2, u1, u3, u4, setMany, u5, u6, D.cells, Nat.reduceAdd, insC, intC, tryC, capsC] at hH
  refine qP hH at6 (hH.rows at0) fun x127 st hH => ?_
  try dsimp only [u2, u1, u3, u4, setMany, u5, u6, D.cells, Nat.reduceAdd, insC, intC, tryC, capsC] at hH
  refine qg ?_
  refine qp (o := 5) ?_
  refine qT hH at5 (fun st hH => ?_) (hcs := hH.ocells at6)
  try dsimp only [u2, u1, u3, u4, setMany, u5, u6, D.cells, Nat.reduceAdd, insC, intC, tryC, capsC] at hH
  refine EvO.nil ?_
  try subst hK
  try refine qy ?_
  repeat refine qq ?_
  try generalize hK : SeqQ _ _ _ _ = K
  refine EvC.reg ?_
  refine EvO.go (d := .agg (capsC zeroCaps)) (st1 := _) rfl rfl rfl (put_T rfl _) ?_
  refine qS hH at3 fun st hH => ?_
  try dsimp only [u2, u1, u3, u4, setMany, u5, u6, D.cells, Nat.reduceAdd, insC, intC, tryC, capsC] at hH
  refine qm ?_
  refine EvO.nil ?_
  try subst hK
  try refine qy ?_
  refine EvC.ret ⟨fun i h => (by cases h), _, _, _, hH.resCellT rfl at3 rfl rfl, rfl, ?_⟩
  unfold stepPost; rw [hS]
  refine ⟨rfl, x127, ?_⟩
  have hrv : ((([⟨pc', at', c'⟩] : List Tr3) ++ stk).reverse.map tryC) = stk.reverse.map tryC ++ [tryC ⟨pc', at', c'⟩] := by simp
  rw [hrv]
  exact hH.drop 5
end Go.Proofs.YtbdilgkfnacahaaGreat
