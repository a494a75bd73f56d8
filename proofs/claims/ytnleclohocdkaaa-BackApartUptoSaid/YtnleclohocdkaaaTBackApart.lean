/- own -/
import Derived.Test.YtnleclohocdkaaaTGQe
import Derived.Test.YtnleclohocdkaaaTGBh
import Derived.Test.YtnleclohocdkaaaTGTi
import Derived.Test.YtnleclohocdkaaaRows
import Derived.WalkKit
import Derived.ProofKit
import Derived.OpenShut
import Derived.JoinedCond
import Derived.ChangeOld
set_option maxRecDepth 100000
set_option maxHeartbeats 4000000
set_option linter.unusedSimpArgs false
set_option linter.unusedVariables false
namespace Go.Proofs.Ytnleclohocdkaaa.backApart
open Go.ChangeShapes Go.WideShapes Go.ChangeAt Go.RowKit Go.V
theorem eq_caps (f : Cps) : binD pv .eql 56 (.agg (capsC f)) (.agg (capsC f)) = some (.bool true) := by
  have h : ∀ a b c d e g i j k l : Int, binD pv .eql 56 (.agg [.int .i64 a, .int .i64 b, .int .i64 c, .int .i64 d, .int .i64 e, .int .i64 g, .int .i64 i, .int .i64 j, .int .i64 k, .int .i64 l]) (.agg [.int .i64 a, .int .i64 b, .int .i64 c, .int .i64 d, .int .i64 e, .int .i64 g, .int .i64 i, .int .i64 j, .int .i64 k, .int .i64 l]) = Option.map D.bool (match some (a == a) with | some true => (match some (b == b) with | some true => (match some (c == c) with | some true => (match some (d == d) with | some true => (match some (e == e) with | some true => (match some (g == g) with | some true => (match some (i == i) with | some true => (match some (j == j) with | some true => (match some (k == k) with | some true => (match some (l == l) with | some true => some true | some false => some false | none => none) | some false => some false | none => none) | some false => some false | none => none) | some false => some false | none => none) | some false => some false | none => none) | some false => some false | none => none) | some false => some false | none => none) | some false => some false | none => none) | some false => some false | none => none) | some false => some false | none => none) := fun _ _ _ _ _ _ _ _ _ _ => rfl
  unfold capsC
  rw [h]
  simp only [beq_self_eq_true, Option.map_some]
theorem head_ev {s0 : St} (b : List UInt8) : Ev pv 24 [.str b, .int .i64 60] s0 (.str (b.take 60)) s0 := by
  refine Ev.mk1 rfl fi24 rfl rfl rfl ?_
  dsimp only [List.cons_append, List.nil_append, List.length, Nat.reduceSub, Nat.reduceAdd, List.replicate_succ, List.replicate_zero]
  have hSb : (enterSt .ro s0).bs = s0.bs := rfl
  have hF : (enterSt .ro s0).flr ≤ s0.bs.length := Nat.le_refl _
  have hH : Has s0.bs.length (enterSt .ro s0) (enterSt .ro s0) [] := Has.start (Nat.le_refl _) (Nat.le_refl _)
  generalize enterSt .ro s0 = S at *
  try change EvC _ _ _ _ _ _
  repeat refine EvC.seq ?_
  try generalize hK : SeqQ _ _ _ _ = K
  refine EvC.reg ?_
  refine EvO.mv (.inr rfl) rfl (ev rfl) (by dsimp only [Fr.put, List.set_cons_succ, List.set_cons_zero] <;> rfl) ?_
  refine EvO.nil ?_
  try subst hK
  try change EvC _ _ _ _ _ _
  try change EvC _ _ _ _ _ _
  repeat refine EvC.seq ?_
  try generalize hK : SeqQ _ _ _ _ = K
  refine EvC.reg ?_
  refine EvO.mv (.inl rfl) rfl (ev rfl) (put_T rfl _) ?_
  first | refine EvO.rlen rfl (ev rfl) (Arg.rows (by assumption) hH) rfl (put_T rfl _) ?_ | refine EvO.rlen rfl (ev rfl) (hH.rows (by first | exact at0 | exact at1 | exact at2 | exact at3 | exact at4 | exact at5 | exact at6 | exact at7)) rfl (put_T rfl _) ?_ | refine EvO.slen rfl rfl rfl (put_T rfl _) ?_ | refine EvO.go rfl rfl rfl (put_T rfl _) ?_
  try simp only [List.length_map, List.length_append, List.length_cons, List.length_nil, List.length_set, List.length_replicate, List.length_reverse]
  refine EvO.mv (.inl rfl) rfl (ev rfl) (put_T rfl _) ?_
  refine EvO.go rfl rfl rfl (put_T rfl _) ?_
  refine EvO.nil ?_
  try subst hK
  try change EvC _ _ _ _ _ _
  try change EvC _ _ _ _ _ _
  repeat refine EvC.seq ?_
  refine EvC.cond (by first | rfl | assumption) (fun h0 => ?_) (fun h0 => ?_) <;> try simp only [decide_eq_true_eq, decide_eq_false_iff_not, beq_iff_eq, beq_eq_false_iff_ne, bne_iff_ne, bne_eq_false_iff_eq, ne_eq, Bool.not_eq_true', Bool.not_eq_false', Bool.not_eq_true, Bool.not_eq_false] at h0
  · try change EvC _ _ _ _ _ _
    repeat refine EvC.seq ?_
    try generalize hK : SeqQ _ _ _ _ = K
    refine EvC.reg ?_
    refine EvO.mv (.inl rfl) rfl (ev rfl) (put_T rfl _) ?_
    refine EvO.mv (.inl rfl) rfl (ev rfl) (put_T rfl _) ?_
    refine EvO.go (d := .str (b.take 60)) (st1 := _) rfl rfl (by show Option.map _ (Option.map _ (boundsD b.length none (some (.int .i64 ((60 : Nat) : Int))))) = _; rw [bounds_to (by omega)]; rfl) (put_T rfl _) ?_
    refine EvO.mv (.inr rfl) rfl (ev rfl) (by dsimp only [Fr.put, List.set_cons_succ, List.set_cons_zero] <;> rfl) ?_
    refine EvO.nil ?_
    try subst hK
    try change EvC _ _ _ _ _ _
    refine EvC.ret ⟨fun i h => (by cases h), _, rfl, leave_ro (by simp) hSb hH (rfl)⟩
  · rw [List.take_of_length_le (by omega)]
    refine EvC.skip ?_
    try change EvC _ _ _ _ _ _
    try change EvC _ _ _ _ _ _
    repeat refine EvC.seq ?_
    try generalize hK : SeqQ _ _ _ _ = K
    refine EvC.reg ?_
    refine EvO.mv (.inl rfl) rfl (ev rfl) (put_T rfl _) ?_
    refine EvO.mv (.inr rfl) rfl (ev rfl) (by dsimp only [Fr.put, List.set_cons_succ, List.set_cons_zero] <;> rfl) ?_
    refine EvO.nil ?_
    try subst hK
    try change EvC _ _ _ _ _ _
    refine EvC.ret ⟨fun i h => (by cases h), _, rfl, leave_ro (by simp) hSb hH (rfl)⟩
def outF : Option Cps → Cps × Bool
  | none => (zeroCaps, false)
  | some f => (f, true)
theorem out_two (X : Option Cps) : outC X = .tup [.agg (capsC (outF X).1), .bool (outF X).2] := by
  cases X <;> rfl
theorem law {s0 : St} (a : List UInt8) (ha : a.length ≤ 1048576) (b : List UInt8) (hb : b.length ≤ 1048576) (t : List UInt8) (ht : t.length ≤ 1048576) : Ev pv 6 [.str a, .str b, .str t] s0 (.bool true) s0 := by
  refine Ev.mk1 rfl fi6 rfl rfl rfl ?_
  dsimp only [List.cons_append, List.nil_append, List.length, Nat.reduceSub, Nat.reduceAdd, List.replicate_succ, List.replicate_zero]
  have hSb : (enterSt .ro s0).bs = s0.bs := rfl
  have hF : (enterSt .ro s0).flr ≤ s0.bs.length := Nat.le_refl _
  have hH : Has s0.bs.length (enterSt .ro s0) (enterSt .ro s0) [] := Has.start (Nat.le_refl _) (Nat.le_refl _)
  generalize enterSt .ro s0 = S at *
  try change EvC _ _ _ _ _ _
  repeat refine EvC.seq ?_
  try generalize hK : SeqQ _ _ _ _ = K
  refine EvC.reg ?_
  refine EvO.mv (.inr rfl) rfl (ev rfl) (by dsimp only [Fr.put, List.set_cons_succ, List.set_cons_zero] <;> rfl) ?_
  refine EvO.nil ?_
  try subst hK
  try change EvC _ _ _ _ _ _
  try change EvC _ _ _ _ _ _
  repeat refine EvC.seq ?_
  try generalize hK : SeqQ _ _ _ _ = K
  refine EvC.reg ?_
  refine EvO.mv (.inl rfl) rfl (ev rfl) (put_T rfl _) ?_
  refine EvO.hcall rfl rfl (head_ev t) (put_T rfl _) ?_
  refine EvO.mv (.inr rfl) rfl (ev rfl) (by dsimp only [Fr.put, List.set_cons_succ, List.set_cons_zero] <;> rfl) ?_
  refine EvO.nil ?_
  try subst hK
  try change EvC _ _ _ _ _ _
  obtain ⟨c, hcb⟩ : ∃ c, t.take 60 = c := ⟨_, rfl⟩
  have hcl : c.length ≤ 60 := by rw [← hcb, List.length_take]; omega
  rw [hcb]
  clear hcb
  obtain ⟨hal, _⟩ := allS_len _ c (Nat.le_refl _)
  have hfx : ∀ (p : Pg) (hp : p.ok) (hpl : p.code.length ≤ 400) (r : Int) (st : St), Ev pv 27 [.agg [p.cd, p.sd], .int .i64 r, .str c] st (.tup [.agg (capsC (outF (progFind p r c)).1), .bool (outF (progFind p r c)).2]) st := by
    intro p hp hpl r st
    have hsz : ((allS c).length + 1) * p.code.length ≤ 134217728 := Nat.le_trans (Nat.mul_le_mul (show (allS c).length + 1 ≤ 61 by omega) (show p.code.length ≤ 400 by omega)) (by decide)
    have h := find3_ev (s0 := st) hp r (b := c) (by omega) hsz
    rw [out_two] at h
    exact h
  try change EvC _ _ _ _ _ _
  repeat refine EvC.seq ?_
  try generalize hK : SeqQ _ _ _ _ = K
  refine EvC.reg ?_
  refine EvO.mv (.inl rfl) rfl (ev rfl) (put_T rfl _) ?_
  refine EvO.hlist (s := 1) (vs := [_]) hH rfl rfl rfl rfl rfl (Nat.le_of_ble_eq_true rfl) ⟨rfl, (ev rfl), trivial⟩ rfl (by intro v hv; first | (cases hv; done) | (simp only [List.mem_cons, List.not_mem_nil, or_false] at hv; rcases hv with rfl <;> exact ⟨rfl, rfl⟩)) (fun _ => (put_T rfl _)) (fun k25 st hk25 hH => ?_)
  try dsimp only [List.set_cons_zero, List.set_cons_succ, List.cons_append, List.nil_append, setMany, List.map_cons, List.map_nil, D.cells, Nat.reduceAdd, List.nil_append, Pg.cs, Pg.d, capsC] at hH
  obtain ⟨_, hev, p, okp, rfl, hp, hpl, hpx⟩ := made14r_ev (s0 := st) (ps := [a]) (hH.rows at0) (by simp) (fun x hx => by simp only [List.mem_cons, List.not_mem_nil, or_false] at hx; subst hx; exact ha)
  have hcp := hp.c
  have hsp := hp.s
  unfold Pg.d at hev
  refine EvO.hcall rfl rfl hev (put_T rfl _) ?_
  refine EvO.mv (.inl rfl) rfl (ev rfl) (put_T rfl _) ?_
  refine EvO.go rfl rfl rfl (put_T rfl _) ?_
  refine EvO.go rfl rfl rfl (put_T rfl _) ?_
  refine EvO.halloc hH rfl rfl (fun _ => by dsimp only [Fr.put, List.set_cons_succ, List.set_cons_zero] <;> rfl) (fun k7 st hk7 hH => ?_)
  try dsimp only [List.set_cons_zero, List.set_cons_succ, List.cons_append, List.nil_append, setMany, List.map_cons, List.map_nil, D.cells, Nat.reduceAdd, List.nil_append, Pg.cs, Pg.d, capsC] at hH
  refine EvO.hstoreA hH rfl (ev rfl) (ev rfl) (by first | rfl | exact (SlD.cells (by assumption)).1 | exact hH.ocells (by first | exact at0 | exact at1 | exact at2 | exact at3 | exact at4 | exact at5 | exact at6 | exact at7) | exact hH.dcells (by first | exact at0 | exact at1 | exact at2 | exact at3 | exact at4 | exact at5 | exact at6 | exact at7) | assumption) (by exact rfl) (by first | exact at0 | exact at1 | exact at2 | exact at3 | exact at4 | exact at5 | exact at6 | exact at7) (by exact rfl) (by first | exact .inl hF | exact .inr rfl | exact .inr (by assumption)) (fun st hH => ?_)
  try dsimp only [List.set_cons_zero, List.set_cons_succ, List.cons_append, List.nil_append, setMany, List.map_cons, List.map_nil, D.cells, Nat.reduceAdd, List.nil_append, Pg.cs, Pg.d, capsC] at hH
  refine EvO.mv (.inr rfl) rfl (ev rfl) (by dsimp only [Fr.put, List.set_cons_succ, List.set_cons_zero] <;> rfl) ?_
  refine EvO.nil ?_
  try subst hK
  try change EvC _ _ _ _ _ _
  have hH := hH.erase 1
  try change EvC _ _ _ _ _ _
  repeat refine EvC.seq ?_
  try generalize hK : SeqQ _ _ _ _ = K
  refine EvC.reg ?_
  refine EvO.mv (.inl rfl) rfl (ev rfl) (put_T rfl _) ?_
  refine EvO.hlist (s := 1) (vs := [_]) hH rfl rfl rfl rfl rfl (Nat.le_of_ble_eq_true rfl) ⟨rfl, (ev rfl), trivial⟩ rfl (by intro v hv; first | (cases hv; done) | (simp only [List.mem_cons, List.not_mem_nil, or_false] at hv; rcases hv with rfl <;> exact ⟨rfl, rfl⟩)) (fun _ => (put_T rfl _)) (fun k31 st hk31 hH => ?_)
  try dsimp only [List.set_cons_zero, List.set_cons_succ, List.cons_append, List.nil_append, setMany, List.map_cons, List.map_nil, D.cells, Nat.reduceAdd, List.nil_append, Pg.cs, Pg.d, capsC] at hH
  obtain ⟨_, hev, q, okq, rfl, hq, hql, hqx⟩ := made14r_ev (s0 := st) (ps := [b]) (hH.rows at0) (by simp) (fun x hx => by simp only [List.mem_cons, List.not_mem_nil, or_false] at hx; subst hx; exact hb)
  have hcq := hq.c
  have hsq := hq.s
  unfold Pg.d at hev
  refine EvO.hcall rfl rfl hev (put_T rfl _) ?_
  refine EvO.mv (.inl rfl) rfl (ev rfl) (put_T rfl _) ?_
  refine EvO.go rfl rfl rfl (put_T rfl _) ?_
  refine EvO.go rfl rfl rfl (put_T rfl _) ?_
  refine EvO.halloc hH rfl rfl (fun _ => by dsimp only [Fr.put, List.set_cons_succ, List.set_cons_zero] <;> rfl) (fun k9 st hk9 hH => ?_)
  try dsimp only [List.set_cons_zero, List.set_cons_succ, List.cons_append, List.nil_append, setMany, List.map_cons, List.map_nil, D.cells, Nat.reduceAdd, List.nil_append, Pg.cs, Pg.d, capsC] at hH
  refine EvO.hstoreA hH rfl (ev rfl) (ev rfl) (by first | rfl | exact (SlD.cells (by assumption)).1 | exact hH.ocells (by first | exact at0 | exact at1 | exact at2 | exact at3 | exact at4 | exact at5 | exact at6 | exact at7) | exact hH.dcells (by first | exact at0 | exact at1 | exact at2 | exact at3 | exact at4 | exact at5 | exact at6 | exact at7) | assumption) (by exact rfl) (by first | exact at0 | exact at1 | exact at2 | exact at3 | exact at4 | exact at5 | exact at6 | exact at7) (by exact rfl) (by first | exact .inl hF | exact .inr rfl | exact .inr (by assumption)) (fun st hH => ?_)
  try dsimp only [List.set_cons_zero, List.set_cons_succ, List.cons_append, List.nil_append, setMany, List.map_cons, List.map_nil, D.cells, Nat.reduceAdd, List.nil_append, Pg.cs, Pg.d, capsC] at hH
  refine EvO.mv (.inr rfl) rfl (ev rfl) (by dsimp only [Fr.put, List.set_cons_succ, List.set_cons_zero] <;> rfl) ?_
  refine EvO.nil ?_
  try subst hK
  try change EvC _ _ _ _ _ _
  have hH := hH.erase 1
  try change EvC _ _ _ _ _ _
  repeat refine EvC.seq ?_
  try generalize hK : SeqQ _ _ _ _ = K
  refine EvC.reg ?_
  refine EvO.mv (.inl rfl) rfl (ev rfl) (put_T rfl _) ?_
  refine EvO.mv (.inl rfl) rfl (ev rfl) (put_T rfl _) ?_
  refine EvO.hlist (s := 1) (vs := [_, _]) hH rfl rfl rfl rfl rfl (Nat.le_of_ble_eq_true rfl) ⟨rfl, (ev rfl), rfl, (ev rfl), trivial⟩ rfl (by intro v hv; first | (cases hv; done) | (simp only [List.mem_cons, List.not_mem_nil, or_false] at hv; rcases hv with rfl | rfl <;> exact ⟨rfl, rfl⟩)) (fun _ => (put_T rfl _)) (fun k38 st hk38 hH => ?_)
  try dsimp only [List.set_cons_zero, List.set_cons_succ, List.cons_append, List.nil_append, setMany, List.map_cons, List.map_nil, D.cells, Nat.reduceAdd, List.nil_append, Pg.cs, Pg.d, capsC] at hH
  obtain ⟨_, hev, w, okw, rfl, hw, hwl, hwx⟩ := made14r_ev (s0 := st) (ps := [a, b]) (hH.rows at0) (by simp) (fun x hx => by simp only [List.mem_cons, List.not_mem_nil, or_false] at hx; rcases hx with rfl | rfl; exact ha; exact hb)
  have hcw := hw.c
  have hsw := hw.s
  unfold Pg.d at hev
  refine EvO.hcall rfl rfl hev (put_T rfl _) ?_
  refine EvO.mv (.inl rfl) rfl (ev rfl) (put_T rfl _) ?_
  refine EvO.go rfl rfl rfl (put_T rfl _) ?_
  refine EvO.go rfl rfl rfl (put_T rfl _) ?_
  refine EvO.halloc hH rfl rfl (fun _ => by dsimp only [Fr.put, List.set_cons_succ, List.set_cons_zero] <;> rfl) (fun k11 st hk11 hH => ?_)
  try dsimp only [List.set_cons_zero, List.set_cons_succ, List.cons_append, List.nil_append, setMany, List.map_cons, List.map_nil, D.cells, Nat.reduceAdd, List.nil_append, Pg.cs, Pg.d, capsC] at hH
  refine EvO.hstoreA hH rfl (ev rfl) (ev rfl) (by first | rfl | exact (SlD.cells (by assumption)).1 | exact hH.ocells (by first | exact at0 | exact at1 | exact at2 | exact at3 | exact at4 | exact at5 | exact at6 | exact at7) | exact hH.dcells (by first | exact at0 | exact at1 | exact at2 | exact at3 | exact at4 | exact at5 | exact at6 | exact at7) | assumption) (by exact rfl) (by first | exact at0 | exact at1 | exact at2 | exact at3 | exact at4 | exact at5 | exact at6 | exact at7) (by exact rfl) (by first | exact .inl hF | exact .inr rfl | exact .inr (by assumption)) (fun st hH => ?_)
  try dsimp only [List.set_cons_zero, List.set_cons_succ, List.cons_append, List.nil_append, setMany, List.map_cons, List.map_nil, D.cells, Nat.reduceAdd, List.nil_append, Pg.cs, Pg.d, capsC] at hH
  refine EvO.mv (.inr rfl) rfl (ev rfl) (by dsimp only [Fr.put, List.set_cons_succ, List.set_cons_zero] <;> rfl) ?_
  refine EvO.nil ?_
  try subst hK
  try change EvC _ _ _ _ _ _
  have hH := hH.erase 1
  cases okp with
  | false =>
    have hg2 : (!false) = true := rfl
    have hg6 : true = true := rfl
    try change EvC _ _ _ _ _ _
    repeat refine EvC.seq ?_
    try generalize hK : SeqQ _ _ _ _ = K
    refine EvC.reg ?_
    refine EvO.mv (.inl rfl) rfl (ev rfl) (put_T rfl _) ?_
    refine EvO.go rfl rfl rfl (put_T rfl _) ?_
    refine EvO.mv (.inl rfl) rfl (ev rfl) (put_T rfl _) ?_
    refine EvO.skip (wantD_not rfl rfl rfl hg2) (put_T rfl _) ?_
    refine EvO.skip (wantD_not rfl rfl rfl hg2) (put_T rfl _) ?_
    refine EvO.pickT rfl rfl hg2 (put_T rfl _) ?_
    refine EvO.mv (.inl rfl) rfl (ev rfl) (put_T rfl _) ?_
    refine EvO.skip rfl (put_T rfl _) ?_
    refine EvO.skip rfl (put_T rfl _) ?_
    refine EvO.go rfl rfl rfl (put_T rfl _) ?_
    refine EvO.nil ?_
    try subst hK
    try change EvC _ _ _ _ _ _
    try change EvC _ _ _ _ _ _
    repeat refine EvC.seq ?_
    refine EvC.cond (v := true) (by first | rfl | assumption) (fun _ => ?_) (fun h => by cases h)
    try change EvC _ _ _ _ _ _
    try change EvC _ _ _ _ _ _
    repeat refine EvC.seq ?_
    try generalize hK : SeqQ _ _ _ _ = K
    refine EvC.reg ?_
    refine EvO.hcall rfl rfl (Ev.prim rfl rfl) (put_T rfl _) ?_
    refine EvO.mv (.inr rfl) rfl (ev rfl) (by dsimp only [Fr.put, List.set_cons_succ, List.set_cons_zero] <;> rfl) ?_
    refine EvO.nil ?_
    try subst hK
    try change EvC _ _ _ _ _ _
    refine EvC.ret ⟨fun i h => (by cases h), _, rfl, leave_ro (by simp) hSb hH (rfl)⟩
  | true =>
    have hg2 : (!true) = false := rfl
    cases okq with
    | false =>
      have hg6 : (!false) = true := rfl
      try change EvC _ _ _ _ _ _
      repeat refine EvC.seq ?_
      try generalize hK : SeqQ _ _ _ _ = K
      refine EvC.reg ?_
      refine EvO.mv (.inl rfl) rfl (ev rfl) (put_T rfl _) ?_
      refine EvO.go rfl rfl rfl (put_T rfl _) ?_
      refine EvO.mv (.inl rfl) rfl (ev rfl) (put_T rfl _) ?_
      refine EvO.mv (.inl rfl) (wantD_is rfl rfl rfl hg2) (ev rfl) (put_T rfl _) ?_
      refine EvO.go (wantD_is rfl rfl rfl hg2) rfl rfl (put_T rfl _) ?_
      refine EvO.pickF rfl rfl hg2 (put_T rfl _) ?_
      refine EvO.mv (.inl rfl) rfl (ev rfl) (put_T rfl _) ?_
      refine EvO.skip (wantD_not rfl rfl rfl hg6) (put_T rfl _) ?_
      refine EvO.skip (wantD_not rfl rfl rfl hg6) (put_T rfl _) ?_
      refine EvO.pickT rfl rfl hg6 (put_T rfl _) ?_
      refine EvO.nil ?_
      try subst hK
      try change EvC _ _ _ _ _ _
      try change EvC _ _ _ _ _ _
      repeat refine EvC.seq ?_
      refine EvC.cond (v := true) (by first | rfl | assumption) (fun _ => ?_) (fun h => by cases h)
      try change EvC _ _ _ _ _ _
      try change EvC _ _ _ _ _ _
      repeat refine EvC.seq ?_
      try generalize hK : SeqQ _ _ _ _ = K
      refine EvC.reg ?_
      refine EvO.hcall rfl rfl (Ev.prim rfl rfl) (put_T rfl _) ?_
      refine EvO.mv (.inr rfl) rfl (ev rfl) (by dsimp only [Fr.put, List.set_cons_succ, List.set_cons_zero] <;> rfl) ?_
      refine EvO.nil ?_
      try subst hK
      try change EvC _ _ _ _ _ _
      refine EvC.ret ⟨fun i h => (by cases h), _, rfl, leave_ro (by simp) hSb hH (rfl)⟩
    | true =>
      have hg6 : (!true) = false := rfl
      cases okw with
      | false =>
        try change EvC _ _ _ _ _ _
        repeat refine EvC.seq ?_
        try generalize hK : SeqQ _ _ _ _ = K
        refine EvC.reg ?_
        refine EvO.mv (.inl rfl) rfl (ev rfl) (put_T rfl _) ?_
        refine EvO.go rfl rfl rfl (put_T rfl _) ?_
        refine EvO.mv (.inl rfl) rfl (ev rfl) (put_T rfl _) ?_
        refine EvO.mv (.inl rfl) (wantD_is rfl rfl rfl hg2) (ev rfl) (put_T rfl _) ?_
        refine EvO.go (wantD_is rfl rfl rfl hg2) rfl rfl (put_T rfl _) ?_
        refine EvO.pickF rfl rfl hg2 (put_T rfl _) ?_
        refine EvO.mv (.inl rfl) rfl (ev rfl) (put_T rfl _) ?_
        refine EvO.mv (.inl rfl) (wantD_is rfl rfl rfl hg6) (ev rfl) (put_T rfl _) ?_
        refine EvO.go (wantD_is rfl rfl rfl hg6) rfl rfl (put_T rfl _) ?_
        refine EvO.pickF rfl rfl hg6 (put_T rfl _) ?_
        refine EvO.nil ?_
        try subst hK
        try change EvC _ _ _ _ _ _
        try change EvC _ _ _ _ _ _
        repeat refine EvC.seq ?_
        refine EvC.cond (v := true) (by first | rfl | assumption) (fun _ => ?_) (fun h => by cases h)
        try change EvC _ _ _ _ _ _
        try change EvC _ _ _ _ _ _
        repeat refine EvC.seq ?_
        try generalize hK : SeqQ _ _ _ _ = K
        refine EvC.reg ?_
        refine EvO.hcall rfl rfl (Ev.prim rfl rfl) (put_T rfl _) ?_
        refine EvO.mv (.inr rfl) rfl (ev rfl) (by dsimp only [Fr.put, List.set_cons_succ, List.set_cons_zero] <;> rfl) ?_
        refine EvO.nil ?_
        try subst hK
        try change EvC _ _ _ _ _ _
        refine EvC.ret ⟨fun i h => (by cases h), _, rfl, leave_ro (by simp) hSb hH (rfl)⟩
      | true =>
        obtain ⟨p1, p2, p3⟩ := hpx rfl
        obtain ⟨q1, q2, q3⟩ := hqx rfl
        obtain ⟨w1, w2, w3⟩ := hwx rfl
        obtain ⟨e1, e2⟩ := find_apart (a := (parseX a).1) (b := (parseX b).1) p3 q3 w3 p1 q1 w1 (by rw [p2]; rfl) (by rw [p2]; rfl) (by rw [q2]; rfl) (by rw [q2]; rfl) (by rw [w2]; rfl) (by rw [w2]; rfl) c
        have hf1 := hfx p hp hpl 0
        have hf2 := hfx q hq hql 0
        have hf3 := hfx w hw hwl 0
        have hf4 := hfx w hw hwl 1
        rw [e1] at hf3
        rw [e2] at hf4
        generalize outF (progFind p 0 c) = X at *
        generalize outF (progFind q 0 c) = Y at *
        obtain ⟨f, bp⟩ := X
        obtain ⟨g, bq⟩ := Y
        dsimp only at hf1 hf2 hf3 hf4
        have hg3 : true = true := rfl
        have hg8 : true = true := rfl
        have hg13 : (bp == bp) = true := by simp
        have hg18 : (bq == bq) = true := by simp
        try change EvC _ _ _ _ _ _
        repeat refine EvC.seq ?_
        try generalize hK : SeqQ _ _ _ _ = K
        refine EvC.reg ?_
        refine EvO.mv (.inl rfl) rfl (ev rfl) (put_T rfl _) ?_
        refine EvO.go rfl rfl rfl (put_T rfl _) ?_
        refine EvO.mv (.inl rfl) rfl (ev rfl) (put_T rfl _) ?_
        refine EvO.mv (.inl rfl) (wantD_is rfl rfl rfl hg2) (ev rfl) (put_T rfl _) ?_
        refine EvO.go (wantD_is rfl rfl rfl hg2) rfl rfl (put_T rfl _) ?_
        refine EvO.pickF rfl rfl hg2 (put_T rfl _) ?_
        refine EvO.mv (.inl rfl) rfl (ev rfl) (put_T rfl _) ?_
        refine EvO.mv (.inl rfl) (wantD_is rfl rfl rfl hg6) (ev rfl) (put_T rfl _) ?_
        refine EvO.go (wantD_is rfl rfl rfl hg6) rfl rfl (put_T rfl _) ?_
        refine EvO.pickF rfl rfl hg6 (put_T rfl _) ?_
        refine EvO.nil ?_
        try subst hK
        try change EvC _ _ _ _ _ _
        try change EvC _ _ _ _ _ _
        repeat refine EvC.seq ?_
        refine EvC.cond (v := false) (by first | rfl | assumption) (fun h => by cases h) (fun _ => ?_)
        try change EvC _ _ _ _ _ _
        refine EvC.skip ?_
        try change EvC _ _ _ _ _ _
        try change EvC _ _ _ _ _ _
        repeat refine EvC.seq ?_
        try generalize hK : SeqQ _ _ _ _ = K
        refine EvC.reg ?_
        first | refine EvO.hloadS (m := 2) hH rfl (ev rfl) (by first | exact at0 | exact at1 | exact at2 | exact at3 | exact at4 | exact at5 | exact at6 | exact at7) (by dsimp only [List.drop_succ_cons, List.drop_zero, List.take_succ_cons, List.take_zero, Pg.cs, Pg.d, capsC] <;> rfl) rfl rfl (put_T rfl _) ?_ | refine EvO.rload rfl (ev rfl) (by assumption) rfl (put_T rfl _) ?_ | refine EvO.oload hH rfl (ev rfl) (by assumption) (by first | exact at0 | exact at1 | exact at2 | exact at3 | exact at4 | exact at5 | exact at6 | exact at7) (by assumption) rfl (put_T rfl _) ?_
        refine EvO.mv (.inl rfl) rfl (ev rfl) (put_T rfl _) ?_
        refine EvO.hcall rfl rfl ((hf1 _)) (put_T rfl _) ?_
        refine EvO.mv (.inl rfl) rfl (ev rfl) (put_T rfl _) ?_
        refine EvO.go rfl rfl rfl (put_T rfl _) ?_
        refine EvO.go rfl rfl rfl (put_T rfl _) ?_
        refine EvO.halloc hH rfl rfl (fun _ => by dsimp only [Fr.put, List.set_cons_succ, List.set_cons_zero] <;> rfl) (fun k13 st hk13 hH => ?_)
        try dsimp only [List.set_cons_zero, List.set_cons_succ, List.cons_append, List.nil_append, setMany, List.map_cons, List.map_nil, D.cells, Nat.reduceAdd, List.nil_append, Pg.cs, Pg.d, capsC] at hH
        refine EvO.hstoreA hH rfl (ev rfl) (ev rfl) (by first | rfl | exact (SlD.cells (by assumption)).1 | exact hH.ocells (by first | exact at0 | exact at1 | exact at2 | exact at3 | exact at4 | exact at5 | exact at6 | exact at7) | exact hH.dcells (by first | exact at0 | exact at1 | exact at2 | exact at3 | exact at4 | exact at5 | exact at6 | exact at7) | assumption) (by exact rfl) (by first | exact at0 | exact at1 | exact at2 | exact at3 | exact at4 | exact at5 | exact at6 | exact at7) (by exact rfl) (by first | exact .inl hF | exact .inr rfl | exact .inr (by assumption)) (fun st hH => ?_)
        try dsimp only [List.set_cons_zero, List.set_cons_succ, List.cons_append, List.nil_append, setMany, List.map_cons, List.map_nil, D.cells, Nat.reduceAdd, List.nil_append, Pg.cs, Pg.d, capsC] at hH
        refine EvO.mv (.inr rfl) rfl (ev rfl) (by dsimp only [Fr.put, List.set_cons_succ, List.set_cons_zero] <;> rfl) ?_
        refine EvO.nil ?_
        try subst hK
        try change EvC _ _ _ _ _ _
        try change EvC _ _ _ _ _ _
        repeat refine EvC.seq ?_
        try generalize hK : SeqQ _ _ _ _ = K
        refine EvC.reg ?_
        first | refine EvO.hloadS (m := 2) hH rfl (ev rfl) (by first | exact at0 | exact at1 | exact at2 | exact at3 | exact at4 | exact at5 | exact at6 | exact at7) (by dsimp only [List.drop_succ_cons, List.drop_zero, List.take_succ_cons, List.take_zero, Pg.cs, Pg.d, capsC] <;> rfl) rfl rfl (put_T rfl _) ?_ | refine EvO.rload rfl (ev rfl) (by assumption) rfl (put_T rfl _) ?_ | refine EvO.oload hH rfl (ev rfl) (by assumption) (by first | exact at0 | exact at1 | exact at2 | exact at3 | exact at4 | exact at5 | exact at6 | exact at7) (by assumption) rfl (put_T rfl _) ?_
        refine EvO.mv (.inl rfl) rfl (ev rfl) (put_T rfl _) ?_
        refine EvO.hcall rfl rfl ((hf2 _)) (put_T rfl _) ?_
        refine EvO.mv (.inl rfl) rfl (ev rfl) (put_T rfl _) ?_
        refine EvO.go rfl rfl rfl (put_T rfl _) ?_
        refine EvO.go rfl rfl rfl (put_T rfl _) ?_
        refine EvO.halloc hH rfl rfl (fun _ => by dsimp only [Fr.put, List.set_cons_succ, List.set_cons_zero] <;> rfl) (fun k15 st hk15 hH => ?_)
        try dsimp only [List.set_cons_zero, List.set_cons_succ, List.cons_append, List.nil_append, setMany, List.map_cons, List.map_nil, D.cells, Nat.reduceAdd, List.nil_append, Pg.cs, Pg.d, capsC] at hH
        refine EvO.hstoreA hH rfl (ev rfl) (ev rfl) (by first | rfl | exact (SlD.cells (by assumption)).1 | exact hH.ocells (by first | exact at0 | exact at1 | exact at2 | exact at3 | exact at4 | exact at5 | exact at6 | exact at7) | exact hH.dcells (by first | exact at0 | exact at1 | exact at2 | exact at3 | exact at4 | exact at5 | exact at6 | exact at7) | assumption) (by exact rfl) (by first | exact at0 | exact at1 | exact at2 | exact at3 | exact at4 | exact at5 | exact at6 | exact at7) (by exact rfl) (by first | exact .inl hF | exact .inr rfl | exact .inr (by assumption)) (fun st hH => ?_)
        try dsimp only [List.set_cons_zero, List.set_cons_succ, List.cons_append, List.nil_append, setMany, List.map_cons, List.map_nil, D.cells, Nat.reduceAdd, List.nil_append, Pg.cs, Pg.d, capsC] at hH
        refine EvO.mv (.inr rfl) rfl (ev rfl) (by dsimp only [Fr.put, List.set_cons_succ, List.set_cons_zero] <;> rfl) ?_
        refine EvO.nil ?_
        try subst hK
        try change EvC _ _ _ _ _ _
        try change EvC _ _ _ _ _ _
        repeat refine EvC.seq ?_
        try generalize hK : SeqQ _ _ _ _ = K
        refine EvC.reg ?_
        first | refine EvO.hloadS (m := 2) hH rfl (ev rfl) (by first | exact at0 | exact at1 | exact at2 | exact at3 | exact at4 | exact at5 | exact at6 | exact at7) (by dsimp only [List.drop_succ_cons, List.drop_zero, List.take_succ_cons, List.take_zero, Pg.cs, Pg.d, capsC] <;> rfl) rfl rfl (put_T rfl _) ?_ | refine EvO.rload rfl (ev rfl) (by assumption) rfl (put_T rfl _) ?_ | refine EvO.oload hH rfl (ev rfl) (by assumption) (by first | exact at0 | exact at1 | exact at2 | exact at3 | exact at4 | exact at5 | exact at6 | exact at7) (by assumption) rfl (put_T rfl _) ?_
        refine EvO.mv (.inl rfl) rfl (ev rfl) (put_T rfl _) ?_
        refine EvO.hcall rfl rfl ((hf3 _)) (put_T rfl _) ?_
        refine EvO.mv (.inl rfl) rfl (ev rfl) (put_T rfl _) ?_
        refine EvO.go rfl rfl rfl (put_T rfl _) ?_
        refine EvO.go rfl rfl rfl (put_T rfl _) ?_
        refine EvO.halloc hH rfl rfl (fun _ => by dsimp only [Fr.put, List.set_cons_succ, List.set_cons_zero] <;> rfl) (fun k17 st hk17 hH => ?_)
        try dsimp only [List.set_cons_zero, List.set_cons_succ, List.cons_append, List.nil_append, setMany, List.map_cons, List.map_nil, D.cells, Nat.reduceAdd, List.nil_append, Pg.cs, Pg.d, capsC] at hH
        refine EvO.hstoreA hH rfl (ev rfl) (ev rfl) (by first | rfl | exact (SlD.cells (by assumption)).1 | exact hH.ocells (by first | exact at0 | exact at1 | exact at2 | exact at3 | exact at4 | exact at5 | exact at6 | exact at7) | exact hH.dcells (by first | exact at0 | exact at1 | exact at2 | exact at3 | exact at4 | exact at5 | exact at6 | exact at7) | assumption) (by exact rfl) (by first | exact at0 | exact at1 | exact at2 | exact at3 | exact at4 | exact at5 | exact at6 | exact at7) (by exact rfl) (by first | exact .inl hF | exact .inr rfl | exact .inr (by assumption)) (fun st hH => ?_)
        try dsimp only [List.set_cons_zero, List.set_cons_succ, List.cons_append, List.nil_append, setMany, List.map_cons, List.map_nil, D.cells, Nat.reduceAdd, List.nil_append, Pg.cs, Pg.d, capsC] at hH
        refine EvO.mv (.inr rfl) rfl (ev rfl) (by dsimp only [Fr.put, List.set_cons_succ, List.set_cons_zero] <;> rfl) ?_
        refine EvO.nil ?_
        try subst hK
        try change EvC _ _ _ _ _ _
        try change EvC _ _ _ _ _ _
        repeat refine EvC.seq ?_
        try generalize hK : SeqQ _ _ _ _ = K
        refine EvC.reg ?_
        first | refine EvO.hloadS (m := 2) hH rfl (ev rfl) (by first | exact at0 | exact at1 | exact at2 | exact at3 | exact at4 | exact at5 | exact at6 | exact at7) (by dsimp only [List.drop_succ_cons, List.drop_zero, List.take_succ_cons, List.take_zero, Pg.cs, Pg.d, capsC] <;> rfl) rfl rfl (put_T rfl _) ?_ | refine EvO.rload rfl (ev rfl) (by assumption) rfl (put_T rfl _) ?_ | refine EvO.oload hH rfl (ev rfl) (by assumption) (by first | exact at0 | exact at1 | exact at2 | exact at3 | exact at4 | exact at5 | exact at6 | exact at7) (by assumption) rfl (put_T rfl _) ?_
        refine EvO.mv (.inl rfl) rfl (ev rfl) (put_T rfl _) ?_
        refine EvO.hcall rfl rfl ((hf4 _)) (put_T rfl _) ?_
        refine EvO.mv (.inl rfl) rfl (ev rfl) (put_T rfl _) ?_
        refine EvO.go rfl rfl rfl (put_T rfl _) ?_
        refine EvO.go rfl rfl rfl (put_T rfl _) ?_
        refine EvO.halloc hH rfl rfl (fun _ => by dsimp only [Fr.put, List.set_cons_succ, List.set_cons_zero] <;> rfl) (fun k19 st hk19 hH => ?_)
        try dsimp only [List.set_cons_zero, List.set_cons_succ, List.cons_append, List.nil_append, setMany, List.map_cons, List.map_nil, D.cells, Nat.reduceAdd, List.nil_append, Pg.cs, Pg.d, capsC] at hH
        refine EvO.hstoreA hH rfl (ev rfl) (ev rfl) (by first | rfl | exact (SlD.cells (by assumption)).1 | exact hH.ocells (by first | exact at0 | exact at1 | exact at2 | exact at3 | exact at4 | exact at5 | exact at6 | exact at7) | exact hH.dcells (by first | exact at0 | exact at1 | exact at2 | exact at3 | exact at4 | exact at5 | exact at6 | exact at7) | assumption) (by exact rfl) (by first | exact at0 | exact at1 | exact at2 | exact at3 | exact at4 | exact at5 | exact at6 | exact at7) (by exact rfl) (by first | exact .inl hF | exact .inr rfl | exact .inr (by assumption)) (fun st hH => ?_)
        try dsimp only [List.set_cons_zero, List.set_cons_succ, List.cons_append, List.nil_append, setMany, List.map_cons, List.map_nil, D.cells, Nat.reduceAdd, List.nil_append, Pg.cs, Pg.d, capsC] at hH
        refine EvO.mv (.inr rfl) rfl (ev rfl) (by dsimp only [Fr.put, List.set_cons_succ, List.set_cons_zero] <;> rfl) ?_
        refine EvO.nil ?_
        try subst hK
        try change EvC _ _ _ _ _ _
        try change EvC _ _ _ _ _ _
        repeat refine EvC.seq ?_
        try generalize hK : SeqQ _ _ _ _ = K
        refine EvC.reg ?_
        first | refine EvO.hloadS (m := 10) hH rfl (ev rfl) (by first | exact at0 | exact at1 | exact at2 | exact at3 | exact at4 | exact at5 | exact at6 | exact at7) (by dsimp only [List.drop_succ_cons, List.drop_zero, List.take_succ_cons, List.take_zero, Pg.cs, Pg.d, capsC] <;> rfl) rfl rfl (put_T rfl _) ?_ | refine EvO.rload rfl (ev rfl) (by assumption) rfl (put_T rfl _) ?_ | refine EvO.oload hH rfl (ev rfl) (by assumption) (by first | exact at0 | exact at1 | exact at2 | exact at3 | exact at4 | exact at5 | exact at6 | exact at7) (by assumption) rfl (put_T rfl _) ?_
        first | refine EvO.hloadS (m := 10) hH rfl (ev rfl) (by first | exact at0 | exact at1 | exact at2 | exact at3 | exact at4 | exact at5 | exact at6 | exact at7) (by dsimp only [List.drop_succ_cons, List.drop_zero, List.take_succ_cons, List.take_zero, Pg.cs, Pg.d, capsC] <;> rfl) rfl rfl (put_T rfl _) ?_ | refine EvO.rload rfl (ev rfl) (by assumption) rfl (put_T rfl _) ?_ | refine EvO.oload hH rfl (ev rfl) (by assumption) (by first | exact at0 | exact at1 | exact at2 | exact at3 | exact at4 | exact at5 | exact at6 | exact at7) (by assumption) rfl (put_T rfl _) ?_
        refine EvO.eqB rfl (ev rfl) (ev rfl) (eq_caps f) (put_T rfl _) ?_
        refine EvO.mv (.inl rfl) rfl (ev rfl) (put_T rfl _) ?_
        first | refine EvO.hloadS (m := 10) hH (wantD_is rfl rfl rfl hg3) (ev rfl) (by first | exact at0 | exact at1 | exact at2 | exact at3 | exact at4 | exact at5 | exact at6 | exact at7) (by dsimp only [List.drop_succ_cons, List.drop_zero, List.take_succ_cons, List.take_zero, Pg.cs, Pg.d, capsC] <;> rfl) rfl rfl (put_T rfl _) ?_ | refine EvO.rload (wantD_is rfl rfl rfl hg3) (ev rfl) (by assumption) rfl (put_T rfl _) ?_ | refine EvO.oload hH (wantD_is rfl rfl rfl hg3) (ev rfl) (by assumption) (by first | exact at0 | exact at1 | exact at2 | exact at3 | exact at4 | exact at5 | exact at6 | exact at7) (by assumption) rfl (put_T rfl _) ?_
        first | refine EvO.hloadS (m := 10) hH (wantD_is rfl rfl rfl hg3) (ev rfl) (by first | exact at0 | exact at1 | exact at2 | exact at3 | exact at4 | exact at5 | exact at6 | exact at7) (by dsimp only [List.drop_succ_cons, List.drop_zero, List.take_succ_cons, List.take_zero, Pg.cs, Pg.d, capsC] <;> rfl) rfl rfl (put_T rfl _) ?_ | refine EvO.rload (wantD_is rfl rfl rfl hg3) (ev rfl) (by assumption) rfl (put_T rfl _) ?_ | refine EvO.oload hH (wantD_is rfl rfl rfl hg3) (ev rfl) (by assumption) (by first | exact at0 | exact at1 | exact at2 | exact at3 | exact at4 | exact at5 | exact at6 | exact at7) (by assumption) rfl (put_T rfl _) ?_
        refine EvO.eqB (wantD_is rfl rfl rfl hg3) (ev rfl) (ev rfl) (eq_caps g) (put_T rfl _) ?_
        refine EvO.pickT rfl rfl hg3 (put_T rfl _) ?_
        refine EvO.mv (.inl rfl) rfl (ev rfl) (put_T rfl _) ?_
        refine EvO.mv (.inl rfl) (wantD_is rfl rfl rfl hg8) (ev rfl) (put_T rfl _) ?_
        refine EvO.mv (.inl rfl) (wantD_is rfl rfl rfl hg8) (ev rfl) (put_T rfl _) ?_
        refine EvO.go (wantD_is rfl rfl rfl hg8) rfl rfl (put_T rfl _) ?_
        refine EvO.pickT rfl rfl hg8 (put_T rfl _) ?_
        refine EvO.mv (.inl rfl) rfl (ev rfl) (put_T rfl _) ?_
        refine EvO.mv (.inl rfl) (wantD_is rfl rfl rfl hg13) (ev rfl) (put_T rfl _) ?_
        refine EvO.mv (.inl rfl) (wantD_is rfl rfl rfl hg13) (ev rfl) (put_T rfl _) ?_
        refine EvO.go (wantD_is rfl rfl rfl hg13) rfl rfl (put_T rfl _) ?_
        refine EvO.pickT rfl rfl hg13 (put_T rfl _) ?_
        refine EvO.mv (.inl rfl) rfl (ev rfl) (put_T rfl _) ?_
        refine EvO.hcall (wantD_is rfl rfl rfl hg18) rfl (Ev.prim rfl rfl) (put_T rfl _) ?_
        refine EvO.pickT rfl rfl hg18 (put_T rfl _) ?_
        refine EvO.mv (.inr rfl) rfl (ev rfl) (by dsimp only [Fr.put, List.set_cons_succ, List.set_cons_zero] <;> rfl) ?_
        refine EvO.nil ?_
        try subst hK
        try change EvC _ _ _ _ _ _
        refine EvC.ret ⟨fun i h => (by cases h), _, rfl, leave_ro (by simp) hSb hH (rfl)⟩
theorem own : ownKnob Try.prog.godebug = none := by kernel_rfl
theorem laidOut : laidOutB Try.prog = true := by kernel_rfl
theorem lifted (os : Os) (started : os.Started) (H : Type) (enc : TypeId × Value → H) (F : Stop.Interp) :
    ReturnsInHanded {} Try.checked os 6 .any ((Rows.OpenSpec.upto Rows.backApartSpec).pre6 enc Try.prog Try.f6 Rows.backApartUptoRow.domain false) (((Rows.OpenSpec.upto Rows.backApartSpec).at F).post enc Try.prog Try.f6 false true false false) := by
  refine returnsInHanded_of_cond (C := Try.checked) (s := Rows.OpenSpec.upto Rows.backApartSpec) (k := Rows.uptoSmall) rfl own started (by kernel_rfl) Try.func6
    (OpenSpec.witness (enc := enc) (C := Try.checked) (s := Rows.OpenSpec.upto Rows.backApartSpec) (k := Rows.uptoSmall) rfl false ⟨#[], #[.string .empty, .string .empty, .string .empty], []⟩ 8 (by kernel_rfl) (by kernel_rfl) (by kernel_rfl)
      (x := ([.lit (.string []), .lit (.string []), .lit (.string [])], [], [])) (by kernel_rfl) rfl (by kernel_rfl)) ?_
  intro W base args ds gs before hval hW _ hk _
  have hW' := hW
  obtain ⟨p, q, hA0, hV, rfl, hfz, hnd⟩ := hW
  have hA : DataW.TrodAll enc Try.prog W 0 (fun _ => true) true Try.f6.params.toList args.toList ds p := hA0
  rw [Try.params6] at hA hval
  obtain ⟨v0, vs0, d0, ds0, p0, q0, hargs, rfl, rfl, h0, r0⟩ := trodAll_cons hA
  obtain ⟨v1, vs1, d1, ds1, p1, q1, rfl, rfl, rfl, h1, r1⟩ := trodAll_cons r0
  obtain ⟨v2, vs2, d2, ds2, p2, q2, rfl, rfl, rfl, h2, r2⟩ := trodAll_cons r1
  obtain ⟨rfl, rfl, rfl⟩ := trodAll_nil r2
  obtain rfl : args = #[v0, v1, v2] := by cases args; simp_all
  obtain ⟨rfl, rfl⟩ := trodVars_none hV
  simp only [Rows.uptoSmall, List.append_nil, List.nil_append, List.singleton_append, List.cons_append, decide_eq_true_eq, Rows.uptoBulkAll] at hk
  have i0 := trod_ir h0 (n := 12) (by kernel_rfl) (hval 0 9 v0 rfl rfl)
  have k0 := h0
  have lt0 : ∀ x ∈ p0, x.block < W.heap.size := by obtain ⟨m, hm⟩ := k0; exact DataW.trod_lt m _ _ _ hm
  obtain ⟨b0, hb0, hs0⟩ := arg_string h0 Try.underlying9
  have l0 : b0.length ≤ Rows.uptoBulk d0 := by rw [hs0]; simp only [Rows.uptoBulk]; omega
  have i1 := trod_ir h1 (n := 12) (by kernel_rfl) (hval 1 9 v1 rfl rfl)
  have k1 := h1
  have lt1 : ∀ x ∈ p1, x.block < W.heap.size := by obtain ⟨m, hm⟩ := k1; exact DataW.trod_lt m _ _ _ hm
  obtain ⟨b1, hb1, hs1⟩ := arg_string h1 Try.underlying9
  have l1 : b1.length ≤ Rows.uptoBulk d1 := by rw [hs1]; simp only [Rows.uptoBulk]; omega
  have i2 := trod_ir h2 (n := 12) (by kernel_rfl) (hval 2 9 v2 rfl rfl)
  have k2 := h2
  have lt2 : ∀ x ∈ p2, x.block < W.heap.size := by obtain ⟨m, hm⟩ := k2; exact DataW.trod_lt m _ _ _ hm
  obtain ⟨b2, hb2, hs2⟩ := arg_string h2 Try.underlying9
  have l2 : b2.length ≤ Rows.uptoBulk d2 := by rw [hs2]; simp only [Rows.uptoBulk]; omega
  have hlaw : Ev pv 6 [dval d0, dval d1, dval d2] ⟨[], 0, 0⟩ (.bool true) ⟨[], 0, 0⟩ := by
    rw [hb0, hb1, hb2]
    exact law b0 (by omega) b1 (by omega) b2 (by omega)
  have hir : ∀ (i : Nat) c v, [dval d0, dval d1, dval d2][i]? = some c → [v0, v1, v2][i]? = some v → IR W (fun b => b < W.heap.size) c v := by
    intro i c v hc hv
    match i, hc, hv with
    | 0, hc, hv => cases hc; cases hv; exact i0
    | 1, hc, hv => cases hc; cases hv; exact i1
    | 2, hc, hv => cases hc; cases hv; exact i2
  clear hA0
  refine (law_calls view hlaw (us := [v0, v1, v2]) rfl hir).mono fun e W' ⟨he, bel⟩ => ?_
  subst he
  exact ⟨_, rfl, _, _, _, [], _, [], hW', trodAll_mk1 (shut_bool Try.underlying4 _), (trodAll_cons_mk (Below.trod laidOut (by kernel_rfl) (of_decide_eq_true (by kernel_rfl)) k0 bel lt0) (trodAll_cons_mk (Below.trod laidOut (by kernel_rfl) (of_decide_eq_true (by kernel_rfl)) k1 bel lt1) (trodAll_cons_mk (Below.trod laidOut (by kernel_rfl) (of_decide_eq_true (by kernel_rfl)) k2 bel lt2) trodAll_mk0))), rfl, bel.frame _, fun h => by cases h⟩
theorem fact1 : (Rows.backApartUptoRow.inPlace == Try.checked.prog.inPlace 6) = true := by kernel_rfl
theorem fact2 : (Rows.backApartUptoRow.unfollowed == Try.checked.prog.unfollowed 6) = true := by kernel_rfl
theorem fact3 : (Rows.backApartUptoRow.recurses == Try.checked.prog.recurses 6) = true := by kernel_rfl
theorem fact4 : (Rows.backApartUptoRow.named == Try.checked.prog.varsNamed 6) = true := by kernel_rfl
theorem and_t {a b : Bool} (h1 : a = true) (h2 : b = true) : (a && b) = true := by rw [h1, h2]; rfl
theorem facts : joinedFacts Try.checked.prog 6 Try.f6 (Rows.OpenSpec.upto Rows.backApartSpec).bare Rows.backApartUptoRow = true := by
  unfold joinedFacts
  exact and_t (and_t (and_t (and_t (and_t (and_t (and_t (and_t (and_t (and_t (and_t (and_t (and_t (and_t (and_t (and_t (and_t (and_t (and_t (and_t (and_t (and_t (and_t (by kernel_rfl) fact1) fact2) fact3) fact4) (by kernel_rfl)) (by kernel_rfl)) (by kernel_rfl)) (by kernel_rfl)) (by kernel_rfl)) (by kernel_rfl)) (by kernel_rfl)) (by kernel_rfl)) (by kernel_rfl)) (by kernel_rfl)) (by kernel_rfl)) (by kernel_rfl)) (by kernel_rfl)) (by kernel_rfl)) (by kernel_rfl)) (by kernel_rfl)) (by kernel_rfl)) (by kernel_rfl)) (by kernel_rfl)
theorem proved : Rows.BackApartUptoSaid :=
  OpenClaim.holds_of_cond 6 Try.f6 rfl rfl rfl rfl rfl rfl rfl ⟨rfl, rfl, rfl, rfl, rfl⟩ rfl rfl rfl rfl rfl (by kernel_rfl) Try.func6 facts
    (of_decide_eq_true (by kernel_rfl)) (by unfold Func.isWrapper; first | (rw [if_pos (by decide +kernel)]; kernel_rfl) | (rw [if_neg (by decide +kernel)]; exact ⟨rfl, rfl⟩))
    (fun os started H enc _ F => lifted os started H enc F)
end Go.Proofs.Ytnleclohocdkaaa.backApart
#print axioms Go.Proofs.Ytnleclohocdkaaa.backApart.proved
