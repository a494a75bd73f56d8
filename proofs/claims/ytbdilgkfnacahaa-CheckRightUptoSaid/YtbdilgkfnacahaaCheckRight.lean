/- CheckRight, for arguments of bulk at most 1048576: it answers true. -/
import Derived.Test.YtbdilgkfnacahaaAr
import Derived.Test.YtbdilgkfnacahaaJo
import Derived.Test.YtbdilgkfnacahaaRows
import Derived.WalkKit
import Derived.ProofKit
import Derived.OpenShut
import Derived.JoinedCond
import Derived.ChangeOld
namespace Go.Proofs.Ytbdilgkfnacahaa.checkRight
open Go.ChangeShapes Go.WideShapes Go.ChangeAt Go.RowKit Go.V
set_option maxRecDepth 100000
set_option maxHeartbeats 4000000
set_option linter.unusedSimpArgs false
set_option linter.unusedVariables false

theorem law {s0 : St} (p : Pg) (hp : p.ok) (rule : Int) : Ev pv 6 [p.d, .int .i64 rule] s0 (.bool true) s0 := by
  refine Ev.mk1 rfl fi6 rfl rfl rfl ?_
  dsimp only [List.cons_append, List.nil_append, List.length, Nat.reduceSub, Nat.reduceAdd, List.replicate_succ, List.replicate_zero]
  have hSb : (enterSt .ro s0).bs = s0.bs := rfl
  have hF : (enterSt .ro s0).flr ≤ s0.bs.length := Nat.le_refl _
  have hH : Has s0.bs.length (enterSt .ro s0) (enterSt .ro s0) [] := Has.start (Nat.le_refl _) (Nat.le_refl _)
  generalize enterSt .ro s0 = S at *
  unfold Pg.d
  try change EvC _ _ _ _ _ _
  repeat refine EvC.seq ?_
  try generalize hK : SeqQ _ _ _ _ = K
  refine EvC.reg ?_
  refine EvO.hbox hH rfl rfl (fun _ => by dsimp only [Fr.put, List.set_cons_succ, List.set_cons_zero] <;> rfl) (fun k2 st hk2 hH => ?_)
  try dsimp only [List.set_cons_zero, List.set_cons_succ, List.cons_append, List.nil_append, setMany, List.map_cons, List.map_nil, D.cells, Nat.reduceAdd, List.nil_append, Pg.cs, insC, intC, boolC] at hH
  refine EvO.mv (.inr rfl) rfl (ev rfl) (by dsimp only [Fr.put, List.set_cons_succ, List.set_cons_zero] <;> rfl) ?_
  refine EvO.nil ?_
  try subst hK
  try change EvC _ _ _ _ _ _
  obtain ⟨_, hev, q, rfl, hq, hqc, hqs⟩ := short_ev (s0 := st) hp
  try change EvC _ _ _ _ _ _
  repeat refine EvC.seq ?_
  try generalize hK : SeqQ _ _ _ _ = K
  refine EvC.reg ?_
  refine EvO.hloadS (m := 2) hH rfl (ev rfl) (by exact at0) (by dsimp only [List.drop_succ_cons, List.drop_zero, List.take_succ_cons, List.take_zero, Pg.cs, insC, intC, boolC] <;> rfl) rfl rfl (put_T rfl _) ?_
  refine EvO.hcall rfl rfl (hev) (put_T rfl _) ?_
  refine EvO.hstoreA hH rfl (ev rfl) (ev rfl) (by rfl) (by exact rfl) (by exact at0) (by exact rfl) (by exact .inl hF) (fun st hH => ?_)
  try dsimp only [List.set_cons_zero, List.set_cons_succ, List.cons_append, List.nil_append, setMany, List.map_cons, List.map_nil, D.cells, Nat.reduceAdd, List.nil_append, Pg.cs, insC, intC, boolC] at hH
  refine EvO.nil ?_
  try subst hK
  try change EvC _ _ _ _ _ _
  clear hev
  obtain ⟨_, hev, w, rfl, hw, hwc, hws⟩ := copyProg_ev (s0 := st) hq
  try change EvC _ _ _ _ _ _
  repeat refine EvC.seq ?_
  try generalize hK : SeqQ _ _ _ _ = K
  refine EvC.reg ?_
  refine EvO.hloadS (m := 2) hH rfl (ev rfl) (by exact at0) (by dsimp only [List.drop_succ_cons, List.drop_zero, List.take_succ_cons, List.take_zero, Pg.cs, insC, intC, boolC] <;> rfl) rfl rfl (put_T rfl _) ?_
  refine EvO.hcall rfl rfl (hev) (put_T rfl _) ?_
  refine EvO.halloc hH rfl rfl (fun _ => by dsimp only [Fr.put, List.set_cons_succ, List.set_cons_zero] <;> rfl) (fun k5 st hk5 hH => ?_)
  try dsimp only [List.set_cons_zero, List.set_cons_succ, List.cons_append, List.nil_append, setMany, List.map_cons, List.map_nil, D.cells, Nat.reduceAdd, List.nil_append, Pg.cs, insC, intC, boolC] at hH
  refine EvO.hstoreA hH rfl (ev rfl) (ev rfl) (by rfl) (by exact rfl) (by exact at0) (by exact rfl) (by exact .inl hF) (fun st hH => ?_)
  try dsimp only [List.set_cons_zero, List.set_cons_succ, List.cons_append, List.nil_append, setMany, List.map_cons, List.map_nil, D.cells, Nat.reduceAdd, List.nil_append, Pg.cs, insC, intC, boolC] at hH
  refine EvO.nil ?_
  try subst hK
  try change EvC _ _ _ _ _ _
  clear hev
  have hRR := right_copy hwc hws
  try change EvC _ _ _ _ _ _
  repeat refine EvC.seq ?_
  try generalize hK : SeqQ _ _ _ _ = K
  refine EvC.reg ?_
  refine EvO.hloadS (m := 2) hH rfl (ev rfl) (by exact at0) (by dsimp only [List.drop_succ_cons, List.drop_zero, List.take_succ_cons, List.take_zero, Pg.cs, insC, intC, boolC] <;> rfl) rfl rfl (put_T rfl _) ?_
  refine EvO.hcall rfl rfl (refRightQ_ev (p := w) hw) (put_T rfl _) ?_
  refine EvO.mv (.inr rfl) rfl (ev rfl) (by dsimp only [Fr.put, List.set_cons_succ, List.set_cons_zero] <;> rfl) ?_
  refine EvO.nil ?_
  try subst hK
  try change EvC _ _ _ _ _ _
  have hH := hH.nulE 1
  try change EvC _ _ _ _ _ _
  repeat refine EvC.seq ?_
  try generalize hK : SeqQ _ _ _ _ = K
  refine EvC.reg ?_
  refine EvO.mv (.inr rfl) rfl (ev rfl) (by dsimp only [Fr.put, List.set_cons_succ, List.set_cons_zero] <;> rfl) ?_
  refine EvO.nil ?_
  try subst hK
  try change EvC _ _ _ _ _ _
  try change EvC _ _ _ _ _ _
  repeat refine EvC.seq ?_
  try generalize hK : SeqQ _ _ _ _ = K
  refine EvC.reg ?_
  refine EvO.mv (.inl rfl) rfl (ev rfl) (put_T rfl _) ?_
  refine EvO.nil ?_
  try subst hK
  try change EvC _ _ _ _ _ _
  try change EvC _ _ _ _ _ _
  repeat refine EvC.seq ?_
  refine EvC.merge (fun fr st => ∃ (y : D) (d0 d3 d8 d9 : D) (tmp : List (Nat × D)), fr = ⟨10, [d0, .int .i64 rule, .ptr k2 0 0, d3, .bool false, .ptr k5 0 0, .bool (dec (RightQ w)), y, d8, d9], tmp⟩ ∧ Has s0.bs.length S st [.lst y 1 ((reachN q rule).map intC), .box k5 (.mem 0 false [w.cd, w.sd]), .box k2 (.mem 0 false [q.cd, q.sd])]) ?_ ?_
  · by_cases hr : RightQ w
    · have hrq := hRR.1 hr
      try change EvC _ _ _ _ _ _
      repeat refine EvC.seq ?_
      refine EvC.cond (v := true) (by dsimp only [Fr.ev, Fr.get, nth, Go.V.look]; rw [dec_yes hr]) (fun _ => ?_) (fun h => by cases h)
      try change EvC _ _ _ _ _ _
      have hn : reachN q rule = numsS 0 (reachR w rule) := by
        unfold reachN reachR
        rw [dec_yes hrq, Bool.true_and, hws, hwc, reach_copy]
        split
        · rfl
        · rw [nums_false]
      have hrl : (reachR w rule).length ≤ 1048576 := by
        unfold reachR; split
        · rw [reachS_len]; exact hw.cl
        · rw [List.length_replicate]; exact hw.cl
      have hra := (boolsV_sl (reachR w rule)).arg s0.bs.length S
      try change EvC _ _ _ _ _ _
      repeat refine EvC.seq ?_
      try generalize hK : SeqQ _ _ _ _ = K
      refine EvC.reg ?_
      refine EvO.hloadS (m := 2) hH rfl (ev rfl) (by exact at1) (by dsimp only [List.drop_succ_cons, List.drop_zero, List.take_succ_cons, List.take_zero, Pg.cs, insC, intC, boolC] <;> rfl) rfl rfl (put_T rfl _) ?_
      refine EvO.mv (.inl rfl) rfl (ev rfl) (put_T rfl _) ?_
      refine EvO.hcall rfl rfl (refReach_ev (p := w) hw hr.closed hr.st) (put_T rfl _) ?_
      refine EvO.mv (.inr rfl) rfl (ev rfl) (by dsimp only [Fr.put, List.set_cons_succ, List.set_cons_zero] <;> rfl) ?_
      refine EvO.nil ?_
      try subst hK
      try change EvC _ _ _ _ _ _
      rw [hn]
      generalize reachR w rule = L at *
      try change EvC _ _ _ _ _ _
      repeat refine EvC.seq ?_
      try generalize hK : SeqQ _ _ _ _ = K
      refine EvC.reg ?_
      refine EvO.mv (.inr rfl) rfl (ev rfl) (by dsimp only [Fr.put, List.set_cons_succ, List.set_cons_zero] <;> rfl) ?_
      refine EvO.nil ?_
      try subst hK
      try change EvC _ _ _ _ _ _
      try change EvC _ _ _ _ _ _
      repeat refine EvC.seq ?_
      refine EvC.block ?_
      refine EvC.loop (fun mm fr st => ∃ (i : Nat) (y : D) (d0 d3 : D), fr.clean = ⟨10, [d0, .int .i64 rule, .ptr k2 0 0, d3, .bool false, .ptr k5 0 0, .bool (dec (RightQ w)), y, boolsV L, .int .i64 (i : Nat)], []⟩ ∧ Has s0.bs.length S st [.lst y 1 ((numsS 0 (L.take i)).map intC), .box k5 (.mem 0 false [w.cd, w.sd]), .box k2 (.mem 0 false [q.cd, q.sd])] ∧ (i + mm = L.length)) (L.length) ?_ ?_
      · exact ⟨0, .nul, _, _, rfl, hH, by omega⟩
      rintro mm fr st ⟨i, y, d0, d3, hfr, hH, hi⟩
      rw [hfr]
      try change EvC _ _ _ _ _ _
      have hnl := nums_len (L.take i) 0
      have hnl2 : (L.take i).length ≤ L.length := by rw [List.length_take]; omega
      try change EvC _ _ _ _ _ _
      repeat refine EvC.seq ?_
      try generalize hK : SeqQ _ _ _ _ = K
      refine EvC.reg ?_
      refine EvO.mv (.inl rfl) rfl (ev rfl) (put_T rfl _) ?_
      refine EvO.mv (.inl rfl) rfl (ev rfl) (put_T rfl _) ?_
      refine EvO.rlen rfl (ev rfl) (Arg.rows (by assumption) hH) rfl (put_T rfl _) ?_
      try simp only [List.length_map, List.length_append, List.length_cons, List.length_nil, List.length_set, List.length_replicate, List.length_reverse]
      refine EvO.go rfl rfl rfl (put_T rfl _) ?_
      refine EvO.nil ?_
      try subst hK
      try change EvC _ _ _ _ _ _
      try change EvC _ _ _ _ _ _
      repeat refine EvC.seq ?_
      refine EvC.cond (by rfl) (fun h1 => ?_) (fun h1 => ?_) <;> try simp only [decide_eq_true_eq, decide_eq_false_iff_not, beq_iff_eq, beq_eq_false_iff_ne, bne_iff_ne, bne_eq_false_iff_eq, ne_eq, Bool.not_eq_true', Bool.not_eq_false', Bool.not_eq_true, Bool.not_eq_false] at h1
      · refine EvC.skip ?_
        try change EvC _ _ _ _ _ _
        obtain ⟨b, hb⟩ : ∃ b, L[i]? = some b := ⟨L[i]'(by omega), List.getElem?_eq_getElem _⟩
        have hr1 := bool_get hb
        have hn1 : numsS 0 (L.take (i + 1)) = numsS 0 (L.take i) ++ (if b then [(i : Int)] else []) := by
          rw [List.take_add_one, hb, Option.toList_some, nums_snoc, List.length_take, Nat.min_eq_left (by omega), Nat.zero_add]
        try change EvC _ _ _ _ _ _
        repeat refine EvC.seq ?_
        refine EvC.block ?_
        try change EvC _ _ _ _ _ _
        repeat refine EvC.seq ?_
        try generalize hK : SeqQ _ _ _ _ = K
        refine EvC.reg ?_
        refine EvO.mv (.inl rfl) rfl (ev rfl) (put_T rfl _) ?_
        refine EvO.mv (.inl rfl) rfl (ev rfl) (put_T rfl _) ?_
        refine EvO.ridx rfl (ev rfl) (ev rfl) (Arg.rows (by assumption) hH) rfl rfl (by assumption) (fun _ => (put_T rfl _)) (fun p28 hp28 => ?_)
        refine EvO.rload rfl (ev rfl) (by assumption) rfl (put_T rfl _) ?_
        refine EvO.nil ?_
        try subst hK
        try change EvC _ _ _ _ _ _
        cases b with
        | true =>
          rw [if_pos rfl] at hn1
          try change EvC _ _ _ _ _ _
          repeat refine EvC.seq ?_
          refine EvC.cond (v := true) (by rfl) (fun _ => ?_) (fun h => by cases h)
          try change EvC _ _ _ _ _ _
          try change EvC _ _ _ _ _ _
          repeat refine EvC.seq ?_
          try generalize hK : SeqQ _ _ _ _ = K
          refine EvC.reg ?_
          refine EvO.mv (.inl rfl) rfl (ev rfl) (put_T rfl _) ?_
          refine EvO.mv (.inl rfl) rfl (ev rfl) (put_T rfl _) ?_
          refine EvO.hlist (s := 1) (vs := [_]) hH rfl rfl rfl rfl rfl (Nat.le_of_ble_eq_true rfl) ⟨rfl, (ev rfl), trivial⟩ rfl (by intro v hv; simp only [List.mem_cons, List.not_mem_nil, or_false] at hv; rcases hv with rfl <;> exact ⟨rfl, rfl⟩) (fun _ => (put_T rfl _)) (fun k32 st hk32 hH => ?_)
          try dsimp only [List.set_cons_zero, List.set_cons_succ, List.cons_append, List.nil_append, setMany, List.map_cons, List.map_nil, D.cells, Nat.reduceAdd, List.nil_append, Pg.cs, insC, intC, boolC] at hH
          refine EvO.happend (s := 1) hH rfl (ev rfl) (ev rfl) (by exact at1) (by exact hH.rows (by exact at0)) rfl rfl rfl rfl rfl rfl rfl ⟨(Nat.le_of_ble_eq_true rfl), (Nat.le_of_ble_eq_true rfl)⟩ (fun _ => (put_T rfl _)) (by simp only [List.length_append, List.length_cons, List.length_nil, List.length_map, List.length_replicate, List.length_set, List.length_reverse] <;> omega) (by exact .inl hF) (fun x33 st hH => ?_)
          try dsimp only [List.set_cons_zero, List.set_cons_succ, List.cons_append, List.nil_append, setMany, List.map_cons, List.map_nil, D.cells, Nat.reduceAdd, List.nil_append, Pg.cs, insC, intC, boolC] at hH
          refine EvO.mv (.inr rfl) rfl (ev rfl) (by dsimp only [Fr.put, List.set_cons_succ, List.set_cons_zero] <;> rfl) ?_
          refine EvO.nil ?_
          try subst hK
          try change EvC _ _ _ _ _ _
          try change EvC _ _ _ _ _ _
          repeat refine EvC.seq ?_
          try generalize hK : SeqQ _ _ _ _ = K
          refine EvC.reg ?_
          refine EvO.mv (.inl rfl) rfl (ev rfl) (put_T rfl _) ?_
          refine EvO.addS64 rfl (ev rfl) (ev rfl) (by omega) (by omega) (put_T rfl _) ?_
          refine EvO.mv (.inr rfl) rfl (ev rfl) (by dsimp only [Fr.put, List.set_cons_succ, List.set_cons_zero] <;> rfl) ?_
          refine EvO.nil ?_
          try subst hK
          try change EvC _ _ _ _ _ _
          exact ⟨mm - 1, by omega, ⟨i + 1, _, _, _, rfl, (by rw [hn1, List.map_append]; exact hH.drop 1), by omega⟩⟩
        | false =>
          rw [if_neg (by simp), List.append_nil] at hn1
          try change EvC _ _ _ _ _ _
          repeat refine EvC.seq ?_
          refine EvC.cond (v := false) (by rfl) (fun h => by cases h) (fun _ => ?_)
          try change EvC _ _ _ _ _ _
          refine EvC.skip ?_
          try change EvC _ _ _ _ _ _
          try change EvC _ _ _ _ _ _
          repeat refine EvC.seq ?_
          try generalize hK : SeqQ _ _ _ _ = K
          refine EvC.reg ?_
          refine EvO.mv (.inl rfl) rfl (ev rfl) (put_T rfl _) ?_
          refine EvO.addS64 rfl (ev rfl) (ev rfl) (by omega) (by omega) (put_T rfl _) ?_
          refine EvO.mv (.inr rfl) rfl (ev rfl) (by dsimp only [Fr.put, List.set_cons_succ, List.set_cons_zero] <;> rfl) ?_
          refine EvO.nil ?_
          try subst hK
          try change EvC _ _ _ _ _ _
          exact ⟨mm - 1, by omega, ⟨i + 1, _, _, _, rfl, (by rw [hn1]; exact hH), by omega⟩⟩
      · try change EvC _ _ _ _ _ _
        refine EvC.exit ?_
        try change EvC _ _ _ _ _ _
        rw [List.take_of_length_le (by omega)] at hH
        exact ⟨y, _, _, _, _, _, rfl, hH⟩
    · have hrq : ¬ RightQ q := fun h => hr (hRR.2 h)
      try change EvC _ _ _ _ _ _
      repeat refine EvC.seq ?_
      refine EvC.cond (v := false) (by dsimp only [Fr.ev, Fr.get, nth, Go.V.look]; rw [dec_no hr]) (fun h => by cases h) (fun _ => ?_)
      try change EvC _ _ _ _ _ _
      refine EvC.skip ?_
      try change EvC _ _ _ _ _ _
      have hn : reachN q rule = [] := by unfold reachN; rw [dec_no hrq]; rfl
      exact ⟨.nul, _, _, _, _, _, rfl, (by rw [hn]; exact hH)⟩
  · rintro fr st ⟨y, d0, d3, d8, d9, tmp, rfl, hH⟩
    try change EvC _ _ _ _ _ _
    have e1 : dec (RightQ w) = dec (RightQ q) := dec_iff hRR
    rw [e1]
    have hg4 : (dec (RightQ q) == dec (RightQ q)) = true := by simp
    have hg11 : true = true := rfl
    have hg16 : true = true := rfl
    have hna := (intsV_sl (reachN q rule)).rows st
    have hnl : (reachN q rule).length ≤ 1048576 := by
      unfold reachN; split
      · refine Nat.le_trans (nums_len _ _) ?_
        rw [reachS_len]; exact hq.cl
      · simp
    have hsame : Ev pv 19 [intsV (reachN q rule), y] st (.bool true) st := by
      have := sameInt_ev (s0 := st) hna (hH.rows at0) (by omega) (by omega)
      rwa [decide_eq_true rfl] at this
    have hprogs : Ev pv 16 [q.d, w.d] st (.bool true) st := by
      have := progs_ev (s0 := st) hq hw
      rwa [decide_eq_true ⟨hws.symm, by rw [hwc, copy_keys]⟩] at this
    try change EvC _ _ _ _ _ _
    repeat refine EvC.seq ?_
    try generalize hK : SeqQ _ _ _ _ = K
    refine EvC.reg ?_
    refine EvO.hloadS (m := 2) hH rfl (ev rfl) (by exact at2) (by dsimp only [List.drop_succ_cons, List.drop_zero, List.take_succ_cons, List.take_zero, Pg.cs, insC, intC, boolC] <;> rfl) rfl rfl (put_T rfl _) ?_
    refine EvO.hcall rfl rfl (checkRight_ev (p := q) hq) (put_T rfl _) ?_
    refine EvO.mv (.inl rfl) rfl (ev rfl) (put_T rfl _) ?_
    refine EvO.go rfl rfl rfl (put_T rfl _) ?_
    refine EvO.mv (.inl rfl) rfl (ev rfl) (put_T rfl _) ?_
    refine EvO.hloadS (m := 2) hH (wantD_is rfl rfl rfl hg4) (ev rfl) (by exact at2) (by dsimp only [List.drop_succ_cons, List.drop_zero, List.take_succ_cons, List.take_zero, Pg.cs, insC, intC, boolC] <;> rfl) rfl rfl (put_T rfl _) ?_
    refine EvO.mv (.inl rfl) (wantD_is rfl rfl rfl hg4) (ev rfl) (put_T rfl _) ?_
    refine EvO.hcall (wantD_is rfl rfl rfl hg4) rfl (checkReach_ev (p := q) hq) (put_T rfl _) ?_
    refine EvO.mv (.inl rfl) (wantD_is rfl rfl rfl hg4) (ev rfl) (put_T rfl _) ?_
    refine EvO.hcall (wantD_is rfl rfl rfl hg4) rfl (hsame) (put_T rfl _) ?_
    refine EvO.pickT rfl rfl hg4 (put_T rfl _) ?_
    refine EvO.mv (.inl rfl) rfl (ev rfl) (put_T rfl _) ?_
    refine EvO.hloadS (m := 2) hH (wantD_is rfl rfl rfl hg11) (ev rfl) (by exact at2) (by dsimp only [List.drop_succ_cons, List.drop_zero, List.take_succ_cons, List.take_zero, Pg.cs, insC, intC, boolC] <;> rfl) rfl rfl (put_T rfl _) ?_
    refine EvO.hloadS (m := 2) hH (wantD_is rfl rfl rfl hg11) (ev rfl) (by exact at1) (by dsimp only [List.drop_succ_cons, List.drop_zero, List.take_succ_cons, List.take_zero, Pg.cs, insC, intC, boolC] <;> rfl) rfl rfl (put_T rfl _) ?_
    refine EvO.hcall (wantD_is rfl rfl rfl hg11) rfl (hprogs) (put_T rfl _) ?_
    refine EvO.pickT rfl rfl hg11 (put_T rfl _) ?_
    refine EvO.mv (.inl rfl) rfl (ev rfl) (put_T rfl _) ?_
    refine EvO.hcall (wantD_is rfl rfl rfl hg16) rfl (Ev.prim rfl rfl) (put_T rfl _) ?_
    refine EvO.pickT rfl rfl hg16 (put_T rfl _) ?_
    refine EvO.mv (.inr rfl) rfl (ev rfl) (by dsimp only [Fr.put, List.set_cons_succ, List.set_cons_zero] <;> rfl) ?_
    refine EvO.nil ?_
    try subst hK
    try change EvC _ _ _ _ _ _
    refine EvC.ret ⟨fun i h => (by cases h), _, rfl, leave_ro (by simp) hSb hH (rfl)⟩

theorem own : ownKnob Try.prog.godebug = none := by kernel_rfl
theorem laidOut : laidOutB Try.prog = true := by kernel_rfl

theorem lifted (os : Os) (started : os.Started) (H : Type) (enc : TypeId × Value → H) (F : Stop.Interp) :
    ReturnsInHanded {} Try.checked os 6 .any ((Rows.OpenSpec.upto Rows.checkRightSpec).pre6 enc Try.prog Try.f6 Rows.checkRightUptoRow.domain false) (((Rows.OpenSpec.upto Rows.checkRightSpec).at F).post enc Try.prog Try.f6 false true false false) := by
  refine returnsInHanded_of_cond (C := Try.checked) (s := Rows.OpenSpec.upto Rows.checkRightSpec) (k := Rows.uptoSmall) rfl own started (by kernel_rfl) Try.func6
    (OpenSpec.witness (enc := enc) (C := Try.checked) (s := Rows.OpenSpec.upto Rows.checkRightSpec) (k := Rows.uptoSmall) rfl false ⟨#[], #[.agg #[.slice none 0 0, .slice none 0 0], .int .i64 0], []⟩ 8 (by kernel_rfl) (by kernel_rfl) (by kernel_rfl)
      (x := ([.agg [.nil, .nil], .lit (.int .i64 0)], [], [])) (by kernel_rfl) rfl (by kernel_rfl)) ?_
  intro W base args ds gs before hval hW _ hk _
  have hW' := hW
  obtain ⟨p, q, hA0, hV, rfl, hfz, hnd⟩ := hW
  have hA : DataW.TrodAll enc Try.prog W 0 (fun _ => true) true Try.f6.params.toList args.toList ds p := hA0
  rw [Try.params6] at hA hval
  obtain ⟨v0, vs0, d0, ds0, p0, q0, hargs, rfl, rfl, h0, r0⟩ := trodAll_cons hA
  obtain ⟨v1, vs1, d1, ds1, p1, q1, rfl, rfl, rfl, h1, r1⟩ := trodAll_cons r0
  obtain ⟨rfl, rfl, rfl⟩ := trodAll_nil r1
  obtain rfl : args = #[v0, v1] := by cases args; simp_all
  obtain ⟨rfl, rfl⟩ := trodVars_none hV
  simp only [Rows.uptoSmall, List.append_nil, List.nil_append, List.singleton_append, List.cons_append, decide_eq_true_eq, Rows.uptoBulkAll] at hk
  have i0 := trod_ir h0 (n := 12) (by kernel_rfl) (hval 0 29 v0 rfl rfl)
  have k0 := h0
  have lt0 : ∀ x ∈ p0, x.block < W.heap.size := by obtain ⟨m, hm⟩ := k0; exact DataW.trod_lt m _ _ _ hm
  obtain ⟨b0, hb0, ok0⟩ := arg_prog (Rd.of h0)
  have i1 := trod_ir h1 (n := 12) (by kernel_rfl) (hval 1 3 v1 rfl rfl)
  have k1 := h1
  have lt1 : ∀ x ∈ p1, x.block < W.heap.size := by obtain ⟨m, hm⟩ := k1; exact DataW.trod_lt m _ _ _ hm
  obtain ⟨b1, hb1, hs1, w1⟩ := arg_int h1 Try.underlying3
  have hlaw : Ev pv 6 [dval d0, dval d1] ⟨[], 0, 0⟩ (.bool true) ⟨[], 0, 0⟩ := by
    rw [hb0, hb1]
    exact law b0 (ok0 (by omega)) b1
  have hir : ∀ (i : Nat) c v, [dval d0, dval d1][i]? = some c → [v0, v1][i]? = some v → IR W (fun b => b < W.heap.size) c v := by
    intro i c v hc hv
    match i, hc, hv with
    | 0, hc, hv => cases hc; cases hv; exact i0
    | 1, hc, hv => cases hc; cases hv; exact i1
  clear hA0
  refine (law_calls view hlaw (us := [v0, v1]) rfl hir).mono fun e W' ⟨he, bel⟩ => ?_
  subst he
  exact ⟨_, rfl, _, _, _, [], _, [], hW', trodAll_mk1 (shut_bool Try.underlying4 _), (trodAll_cons_mk (Below.trod laidOut (by kernel_rfl) (of_decide_eq_true (by kernel_rfl)) k0 bel lt0) (trodAll_cons_mk (Below.trod laidOut (by kernel_rfl) (of_decide_eq_true (by kernel_rfl)) k1 bel lt1) trodAll_mk0)), rfl, bel.frame _, fun h => by cases h⟩

theorem proved : Rows.CheckRightUptoSaid :=
  OpenClaim.holds_of_cond 6 Try.f6 rfl rfl rfl rfl rfl rfl rfl ⟨rfl, rfl, rfl, rfl, rfl⟩ rfl rfl rfl rfl rfl (by kernel_rfl) Try.func6 (by kernel_rfl)
    (of_decide_eq_true (by kernel_rfl)) (by unfold Func.isWrapper; rw [if_neg (by decide +kernel)]; exact ⟨rfl, rfl⟩)
    (fun os started H enc _ F => lifted os started H enc F)
end Go.Proofs.Ytbdilgkfnacahaa.checkRight
#print axioms Go.Proofs.Ytbdilgkfnacahaa.checkRight.proved
