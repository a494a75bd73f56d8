/- BackFinds, for arguments of bulk at most 1048576: it answers true. -/
import Derived.Test.YtbdilgkfnacahaaGreatAr
import Derived.Test.YtbdilgkfnacahaaGreatBf
import Derived.Test.YtbdilgkfnacahaaGreatRows
import Derived.WalkKit
import Derived.ProofKit
import Derived.OpenShut
import Derived.JoinedCond
import Derived.ChangeOld
namespace Go.Proofs.YtbdilgkfnacahaaGreat.backFinds
open Go.ChangeShapes Go.WideShapes Go.ChangeAt Go.RowKit Go.V
set_option maxRecDepth 100000
set_option maxHeartbeats 4000000
set_option linter.unusedSimpArgs false
set_option linter.unusedVariables false

theorem eq_caps (f : Cps) : binD pv .eql 30 (.agg (capsC f)) (.agg (capsC f)) = some (.bool true) := by
 have h : ∀ a b c d e g i j k l : Int, binD pv .eql 30 (.agg [.int .i64 a, .int .i64 b, .int .i64 c, .int .i64 d, .int .i64 e, .int .i64 g, .int .i64 i, .int .i64 j, .int .i64 k, .int .i64 l]) (.agg [.int .i64 a, .int .i64 b, .int .i64 c, .int .i64 d, .int .i64 e, .int .i64 g, .int .i64 i, .int .i64 j, .int .i64 k, .int .i64 l]) = Option.map D.bool (match some (a == a) with | some true => (match some (b == b) with | some true => (match some (c == c) with | some true => (match some (d == d) with | some true => (match some (e == e) with | some true => (match some (g == g) with | some true => (match some (i == i) with | some true => (match some (j == j) with | some true => (match some (k == k) with | some true => (match some (l == l) with | some true => some true | some false => some false | none => none) | some false => some false | none => none) | some false => some false | none => none) | some false => some false | none => none) | some false => some false | none => none) | some false => some false | none => none) | some false => some false | none => none) | some false => some false | none => none) | some false => some false | none => none) | some false => some false | none => none) := fun _ _ _ _ _ _ _ _ _ _ => rfl
 unfold capsC
 rw [h]
 simp only [beq_self_eq_true, Option.map_some]

theorem stepS_copy (code : List PIns) (gs : List (Nat × Nat)) (pl : List Int) : stepS (code.map copyI) gs pl = stepS code gs pl := by
 funext t
 unfold stepS
 rw [List.getElem?_map]
 cases code[t.pc]? <;> rfl

theorem find_copy {p q : Pg} (h1 : q.code = p.code.map copyI) (h2 : q.starts = p.starts) (rule : Int) (b : List UInt8) : refFind q rule b = progFind p rule b := by
 rw [← find_same]
 unfold progFind
 rw [dec_iff (right_copy h1 h2), h2]
 rw [h1, stepS_copy, List.length_map]

theorem head_ev {s0 : St} (b : List UInt8) : Ev pv 6 [.str b, .int .i64 60] s0 (.str (b.take 60)) s0 := by
 refine Ev.mk1 rfl fi6 rfl rfl rfl ?_
 dsimp only [List.cons_append, List.nil_append, List.length, Nat.reduceSub, Nat.reduceAdd, List.replicate_succ, List.replicate_zero]
 have hSb : (enterSt .ro s0).bs = s0.bs := rfl
 have hF : (enterSt .ro s0).flr ≤ s0.bs.length := Nat.le_refl _
 have hH : Has s0.bs.length (enterSt .ro s0) (enterSt .ro s0) [] := Has.start (Nat.le_refl _) (Nat.le_refl _)
 generalize enterSt .ro s0 = S at *
 try refine qy ?_
 repeat refine qq ?_
 try generalize hK : SeqQ _ _ _ _ = K
 refine EvC.reg ?_
 refine qm ?_
 refine EvO.nil ?_
 try subst hK
 try refine qy ?_
 repeat refine qq ?_
 try generalize hK : SeqQ _ _ _ _ = K
 refine EvC.reg ?_
 refine qm ?_
 refine EvO.slen rfl rfl rfl (put_T rfl _) ?_
 try simp only [List.length_map, List.length_append, List.length_cons, List.length_nil, List.length_set, List.length_replicate, List.length_reverse]
 refine qm ?_
 refine qg ?_
 refine EvO.nil ?_
 try subst hK
 try refine qy ?_
 repeat refine qq ?_
 refine qc (fun h0 => ?_) (fun h0 => ?_) <;> try simp only [cs] at h0
 ·try refine qy ?_
  repeat refine qq ?_
  try generalize hK : SeqQ _ _ _ _ = K
  refine EvC.reg ?_
  refine qm ?_
  refine qm ?_
  refine EvO.go (d := .str (b.take 60)) (st1 := _) rfl rfl (by show Option.map _ (Option.map _ (boundsD b.length none (some (.int .i64 ((60 : Nat) : Int))))) = _; rw [bounds_to (by omega)]; rfl) (put_T rfl _) ?_
  refine qm ?_
  refine EvO.nil ?_
  try subst hK
  try refine qy ?_
  refine EvC.ret ⟨fun i h => (by cases h), _, rfl, leave_ro (by simp) hSb hH (rfl)⟩
 ·rw [List.take_of_length_le (by omega)]
  refine EvC.skip ?_
  try refine qy ?_
  repeat refine qq ?_
  try generalize hK : SeqQ _ _ _ _ = K
  refine EvC.reg ?_
  refine qm ?_
  refine qm ?_
  refine EvO.nil ?_
  try subst hK
  try refine qy ?_
  refine EvC.ret ⟨fun i h => (by cases h), _, rfl, leave_ro (by simp) hSb hH (rfl)⟩

theorem law {s0 : St} (p : Pg) (hp : p.ok) (rule : Int) (b : List UInt8) (hbl : b.length ≤ 1048576) : Ev pv 3 [p.d, .int .i64 rule, .str b] s0 (.bool true) s0 := by
 refine Ev.mk1 rfl fi3 rfl rfl rfl ?_
 dsimp only [List.cons_append, List.nil_append, List.length, Nat.reduceSub, Nat.reduceAdd, List.replicate_succ, List.replicate_zero]
 have hSb : (enterSt .ro s0).bs = s0.bs := rfl
 have hF : (enterSt .ro s0).flr ≤ s0.bs.length := Nat.le_refl _
 have hH : Has s0.bs.length (enterSt .ro s0) (enterSt .ro s0) [] := Has.start (Nat.le_refl _) (Nat.le_refl _)
 generalize enterSt .ro s0 = S at *
 have hc := hp.c.arg s0.bs.length S
 have hs := hp.s.arg s0.bs.length S
 have hlen := hp.cl
 unfold Pg.d
 try refine qy ?_
 repeat refine qq ?_
 try generalize hK : SeqQ _ _ _ _ = K
 refine EvC.reg ?_
 refine qb hH fun k3 st hk3 hH => ?_
 try dsimp only [u2, u1, u3, u4, setMany, u5, u6, D.cells, Nat.reduceAdd, Pg.cs, insC, intC, boolC, capsC] at hH
 refine qm ?_
 refine EvO.nil ?_
 try subst hK
 try refine qy ?_
 repeat refine qq ?_
 try generalize hK : SeqQ _ _ _ _ = K
 refine EvC.reg ?_
 refine qm ?_
 refine EvO.hcall rfl rfl (head_ev b) (put_T rfl _) ?_
 refine qm ?_
 refine EvO.nil ?_
 try subst hK
 try refine qy ?_
 obtain ⟨c, hcb⟩ : ∃ c, b.take 60 = c := ⟨_, rfl⟩
 have hcl : c.length ≤ 60 := by rw [← hcb, List.length_take]; omega
 rw [hcb]
 clear hcb
 obtain ⟨hal, _⟩ := allS_len _ c (Nat.le_refl _)
 try refine qy ?_
 repeat refine qq ?_
 try generalize hK : SeqQ _ _ _ _ = K
 refine EvC.reg ?_
 refine qp (o := 0) ?_
 refine ql hH at0 ?_
 refine qn ?_
 try simp only [List.length_map, List.length_append, List.length_cons, List.length_nil, List.length_set, List.length_replicate, List.length_reverse]
 refine qg ?_
 refine EvO.nil ?_
 try subst hK
 try refine qy ?_
 repeat refine qq ?_
 refine qc (fun h0 => ?_) (fun h0 => ?_) <;> try simp only [cs] at h0
 ·try refine qy ?_
  repeat refine qq ?_
  try generalize hK : SeqQ _ _ _ _ = K
  refine EvC.reg ?_
  refine EvO.hcall rfl rfl (Ev.prim rfl rfl) (put_T rfl _) ?_
  refine qm ?_
  refine EvO.nil ?_
  try subst hK
  try refine qy ?_
  refine EvC.ret ⟨fun i h => (by cases h), _, rfl, leave_ro (by simp) hSb hH (rfl)⟩
 ·refine EvC.skip ?_
  try refine qy ?_
  obtain ⟨_, hev, q, rfl, hq, hqc, hqs⟩ := copyProg_ev (s0 := st) hp
  have hqcl : q.code.length = p.code.length := by rw [hqc, List.length_map]
  have hsz : ((allS c).length + 1) * p.code.length ≤ 134217728 := Nat.le_trans (Nat.mul_le_mul (show (allS c).length + 1 ≤ 61 by omega) (show p.code.length ≤ 100 by omega)) (by decide)
  have hsz2 : q.code.length * ((allS c).length + 1) ≤ 134217728 := by rw [hqcl, Nat.mul_comm]; exact hsz
  have hfc := find_copy hqc hqs rule c
  unfold Pg.d at hev
  try refine qy ?_
  repeat refine qq ?_
  try generalize hK : SeqQ _ _ _ _ = K
  refine EvC.reg ?_
  refine EvO.hloadS (m := 2) hH rfl (ev rfl) (by exact at0) (by dsimp only [List.drop_succ_cons, List.drop_zero, List.take_succ_cons, List.take_zero, Pg.cs, insC, intC, boolC, capsC] <;> rfl) rfl rfl (put_T rfl _) ?_
  refine EvO.hcall rfl rfl (hev) (put_T rfl _) ?_
  refine qa hH fun k7 st hk7 hH => ?_
  try dsimp only [u2, u1, u3, u4, setMany, u5, u6, D.cells, Nat.reduceAdd, Pg.cs, insC, intC, boolC, capsC] at hH
  refine qS hH at0 fun st hH => ?_
  try dsimp only [u2, u1, u3, u4, setMany, u5, u6, D.cells, Nat.reduceAdd, Pg.cs, insC, intC, boolC, capsC] at hH
  refine EvO.nil ?_
  try subst hK
  try refine qy ?_
  have hf1 := fun st => find3_ev (s0 := st) hp rule (b := c) (by omega) hsz
  have hf2 := fun st => rfind3_ev (s0 := st) (fun st => Ev.prim rfl rfl) hq rule (b := c) (by omega) hsz2
  have hpr := fun st => progs_ev (s0 := st) hp hq
  simp only [hfc] at hf2
  have hkeys : decide (p.starts = q.starts ∧ p.code.map keyI = q.code.map keyI) = true := by
   rw [decide_eq_true]; exact ⟨hqs.symm, by rw [hqc, copy_keys]⟩
  simp only [hkeys] at hpr
  simp only [Pg.d] at hf1 hf2 hpr
  obtain ⟨f, bo, hout⟩ : ∃ (f : Cps) (bo : Bool), outC (progFind p rule c) = .tup [.agg (capsC f), .bool bo] := by
   cases progFind p rule c with
   | none => exact ⟨_, _, rfl⟩
   | some f => exact ⟨_, _, rfl⟩
  simp only [hout] at hf1 hf2
  try refine qy ?_
  repeat refine qq ?_
  try generalize hK : SeqQ _ _ _ _ = K
  refine EvC.reg ?_
  refine EvO.hloadS (m := 2) hH rfl (ev rfl) (by exact at1) (by dsimp only [List.drop_succ_cons, List.drop_zero, List.take_succ_cons, List.take_zero, Pg.cs, insC, intC, boolC, capsC] <;> rfl) rfl rfl (put_T rfl _) ?_
  refine qm ?_
  refine qm ?_
  refine EvO.hcall rfl rfl ((hf1 _)) (put_T rfl _) ?_
  refine qm ?_
  refine qg ?_
  refine qg ?_
  refine qa hH fun k8 st hk8 hH => ?_
  try dsimp only [u2, u1, u3, u4, setMany, u5, u6, D.cells, Nat.reduceAdd, Pg.cs, insC, intC, boolC, capsC] at hH
  refine qS hH at0 fun st hH => ?_
  try dsimp only [u2, u1, u3, u4, setMany, u5, u6, D.cells, Nat.reduceAdd, Pg.cs, insC, intC, boolC, capsC] at hH
  refine qm ?_
  refine EvO.nil ?_
  try subst hK
  try refine qy ?_
  repeat refine qq ?_
  try generalize hK : SeqQ _ _ _ _ = K
  refine EvC.reg ?_
  refine EvO.hloadS (m := 2) hH rfl (ev rfl) (by exact at1) (by dsimp only [List.drop_succ_cons, List.drop_zero, List.take_succ_cons, List.take_zero, Pg.cs, insC, intC, boolC, capsC] <;> rfl) rfl rfl (put_T rfl _) ?_
  refine qm ?_
  refine qm ?_
  refine EvO.hcall rfl rfl ((hf2 _)) (put_T rfl _) ?_
  refine qm ?_
  refine qg ?_
  refine qg ?_
  refine qa hH fun k10 st hk10 hH => ?_
  try dsimp only [u2, u1, u3, u4, setMany, u5, u6, D.cells, Nat.reduceAdd, Pg.cs, insC, intC, boolC, capsC] at hH
  refine qS hH at0 fun st hH => ?_
  try dsimp only [u2, u1, u3, u4, setMany, u5, u6, D.cells, Nat.reduceAdd, Pg.cs, insC, intC, boolC, capsC] at hH
  refine qm ?_
  refine EvO.nil ?_
  try subst hK
  try refine qy ?_
  repeat refine qq ?_
  refine EvC.cutL 6 (.bool true) [] ?_ (fun ff tmp => ?_)
  ·refine EvO.hloadS (m := 10) hH rfl (ev rfl) (by exact at1) (by dsimp only [List.drop_succ_cons, List.drop_zero, List.take_succ_cons, List.take_zero, Pg.cs, insC, intC, boolC, capsC] <;> rfl) rfl rfl (put_T rfl _) ?_
   refine EvO.hloadS (m := 10) hH rfl (ev rfl) (by exact at0) (by dsimp only [List.drop_succ_cons, List.drop_zero, List.take_succ_cons, List.take_zero, Pg.cs, insC, intC, boolC, capsC] <;> rfl) rfl rfl (put_T rfl _) ?_
   refine EvO.eqB rfl (ev rfl) (ev rfl) (eq_caps f) (put_T rfl _) ?_
   refine qm ?_
   refine EvO.two 38 rfl (fun hg3 => ?_) (fun hg3 => ?_)
   ·refine qm ?_ (hg := wi hg3)
    refine qm ?_ (hg := wi hg3)
    refine qg ?_ (hg := wi hg3)
    refine qt hg3 ?_
    refine qm ?_
    refine EvO.two 43 rfl (fun hg8 => ?_) (fun hg8 => ?_)
    ·refine EvO.hloadS (m := 2) hH (wantD_is rfl rfl rfl hg8) (ev rfl) (by exact at3) (by dsimp only [List.drop_succ_cons, List.drop_zero, List.take_succ_cons, List.take_zero, Pg.cs, insC, intC, boolC, capsC] <;> rfl) rfl rfl (put_T rfl _) ?_
     refine EvO.hloadS (m := 2) hH (wantD_is rfl rfl rfl hg8) (ev rfl) (by exact at2) (by dsimp only [List.drop_succ_cons, List.drop_zero, List.take_succ_cons, List.take_zero, Pg.cs, insC, intC, boolC, capsC] <;> rfl) rfl rfl (put_T rfl _) ?_
     refine EvO.hcall (wantD_is rfl rfl rfl hg8) rfl ((hpr _)) (put_T rfl _) ?_
     refine qt hg8 ?_
     refine qm ?_
     refine EvO.two 48 rfl (fun hg13 => ?_) (fun hg13 => ?_)
     ·refine EvO.hcall (wantD_is rfl rfl rfl hg13) rfl (Ev.prim rfl rfl) (put_T rfl _) ?_
      refine qt hg13 ?_
      refine qm ?_
      refine EvO.nil (leafL ?_)
      try dsimp only [setW, List.foldl, nth, u2, u1]
      try dsimp only [Fr.putO, Fr.put, Fr.clean, Fr.ev, Fr.get, nth, Go.V.look, u1, u2, v1, v2, v3, v4, v5, v6, v7, List.length, u3, u4, Nat.reduceSub, Nat.reduceAdd, List.map]
      all_goals (first | rfl | (simp [hg3, hg8, hg13]; done) | (simp_all; done) | (simp [hg3, hg8, hg13]; omega) | (simp_all; omega))
     ·refine qs ?_ (hg := wn hg13)
      refine qu hg13 ?_
      refine qm ?_
      refine EvO.nil (leafL ?_)
      try dsimp only [setW, List.foldl, nth, u2, u1]
      try dsimp only [Fr.putO, Fr.put, Fr.clean, Fr.ev, Fr.get, nth, Go.V.look, u1, u2, v1, v2, v3, v4, v5, v6, v7, List.length, u3, u4, Nat.reduceSub, Nat.reduceAdd, List.map]
      all_goals (simp [hg3, hg8, hg13]; done)
    ·refine qs ?_ (hg := wn hg8)
     refine qs ?_ (hg := wn hg8)
     refine qs ?_ (hg := wn hg8)
     refine qu hg8 ?_
     refine qm ?_
     refine qs ?_
     refine qg ?_
     refine qm ?_
     refine EvO.nil (leafL ?_)
     try dsimp only [setW, List.foldl, nth, u2, u1]
     try dsimp only [Fr.putO, Fr.put, Fr.clean, Fr.ev, Fr.get, nth, Go.V.look, u1, u2, v1, v2, v3, v4, v5, v6, v7, List.length, u3, u4, Nat.reduceSub, Nat.reduceAdd, List.map]
     all_goals (simp_all; done)
   ·refine qs ?_ (hg := wn hg3)
    refine qs ?_ (hg := wn hg3)
    refine qs ?_ (hg := wn hg3)
    refine qu hg3 ?_
    refine qm ?_
    refine qs ?_
    refine qs ?_
    refine qs ?_
    refine qg ?_
    refine qm ?_
    refine qs ?_
    refine qg ?_
    refine qm ?_
    refine EvO.nil (leafL ?_)
    try dsimp only [setW, List.foldl, nth, u2, u1]
    try dsimp only [Fr.putO, Fr.put, Fr.clean, Fr.ev, Fr.get, nth, Go.V.look, u1, u2, v1, v2, v3, v4, v5, v6, v7, List.length, u3, u4, Nat.reduceSub, Nat.reduceAdd, List.map]
    all_goals (simp [hg3]; done)
  try dsimp only [setW, List.foldl, nth, u2, u1]
  try dsimp only [Fr.putO, Fr.put, Fr.clean, Fr.ev, Fr.get, nth, Go.V.look, u1, u2, v1, v2, v3, v4, v5, v6, v7, List.length, u3, u4, Nat.reduceSub, Nat.reduceAdd, List.map]
  try refine qy ?_
  refine EvC.ret ⟨fun i h => (by cases h), _, rfl, leave_ro (by simp) hSb hH (rfl)⟩

theorem own : ownKnob Tryz.prog.godebug = none := by kernel_rfl
theorem laidOut : laidOutB Tryz.prog = true := by kernel_rfl

theorem lifted (os : Os) (started : os.Started) (H : Type) (enc : TypeId × Value → H) (F : Stop.Interp) :
  ReturnsInHanded {} Tryz.checked os 3 .any ((Rows.OpenSpec.upto Rows.backFindsSpec).pre6 enc Tryz.prog Tryz.f3 Rows.backFindsUptoRow.domain false) (((Rows.OpenSpec.upto Rows.backFindsSpec).at F).post enc Tryz.prog Tryz.f3 false true false false) := by
 refine returnsInHanded_of_cond (C := Tryz.checked) (s := Rows.OpenSpec.upto Rows.backFindsSpec) (k := Rows.uptoSmall) rfl own started (by kernel_rfl) Tryz.func3
  (OpenSpec.witness (enc := enc) (C := Tryz.checked) (s := Rows.OpenSpec.upto Rows.backFindsSpec) (k := Rows.uptoSmall) rfl false ⟨#[], #[.agg #[.slice none 0 0, .slice none 0 0], .int .i64 0, .string .empty], []⟩ 8 (by kernel_rfl) (by kernel_rfl) (by kernel_rfl)
   (x := ([.agg [.nil, .nil], .lit (.int .i64 0), .lit (.string [])], [], [])) (by kernel_rfl) rfl (by kernel_rfl)) ?_
 intro W base args ds gs before hval hW _ hk _
 have hW' := hW
 obtain ⟨p, q, hA0, hV, rfl, hfz, hnd⟩ := hW
 have hA : DataW.TrodAll enc Tryz.prog W 0 (fun _ => true) true Tryz.f3.params.toList args.toList ds p := hA0
 rw [Tryz.params3] at hA hval
 obtain ⟨v0, vs0, d0, ds0, p0, q0, hargs, rfl, rfl, h0, r0⟩ := trodAll_cons hA
 obtain ⟨v1, vs1, d1, ds1, p1, q1, rfl, rfl, rfl, h1, r1⟩ := trodAll_cons r0
 obtain ⟨v2, vs2, d2, ds2, p2, q2, rfl, rfl, rfl, h2, r2⟩ := trodAll_cons r1
 obtain ⟨rfl, rfl, rfl⟩ := trodAll_nil r2
 obtain rfl : args = #[v0, v1, v2] := by cases args; simp_all
 obtain ⟨rfl, rfl⟩ := trodVars_none hV
 simp only [Rows.uptoSmall, List.append_nil, List.nil_append, List.singleton_append, List.cons_append, decide_eq_true_eq, Rows.uptoBulkAll] at hk
 have i0 := trod_ir h0 (n := 12) (by kernel_rfl) (hval 0 25 v0 rfl rfl)
 have k0 := h0
 have lt0 : ∀ x ∈ p0, x.block < W.heap.size := by obtain ⟨m, hm⟩ := k0; exact DataW.trod_lt m _ _ _ hm
 obtain ⟨b0, hb0, ok0⟩ := arg_prog (Rd.of h0)
 have i1 := trod_ir h1 (n := 12) (by kernel_rfl) (hval 1 3 v1 rfl rfl)
 have k1 := h1
 have lt1 : ∀ x ∈ p1, x.block < W.heap.size := by obtain ⟨m, hm⟩ := k1; exact DataW.trod_lt m _ _ _ hm
 obtain ⟨b1, hb1, hs1, w1⟩ := arg_int h1 Tryz.underlying3
 have i2 := trod_ir h2 (n := 12) (by kernel_rfl) (hval 2 9 v2 rfl rfl)
 have k2 := h2
 have lt2 : ∀ x ∈ p2, x.block < W.heap.size := by obtain ⟨m, hm⟩ := k2; exact DataW.trod_lt m _ _ _ hm
 obtain ⟨b2, hb2, hs2⟩ := arg_string h2 Tryz.underlying9
 have l2 : b2.length ≤ Rows.uptoBulk d2 := by rw [hs2]; simp only [Rows.uptoBulk]; omega
 have hlaw : Ev pv 3 [dval d0, dval d1, dval d2] ⟨[], 0, 0⟩ (.bool true) ⟨[], 0, 0⟩ := by
  rw [hb0, hb1, hb2]
  exact law b0 (ok0 (by omega)) b1 b2 (by omega)
 have hir : ∀ (i : Nat) c v, [dval d0, dval d1, dval d2][i]? = some c → [v0, v1, v2][i]? = some v → IR W (fun b => b < W.heap.size) c v := by
  intro i c v hc hv
  match i, hc, hv with
  | 0, hc, hv => cases hc; cases hv; exact i0
  | 1, hc, hv => cases hc; cases hv; exact i1
  | 2, hc, hv => cases hc; cases hv; exact i2
 clear hA0
 refine (law_calls view hlaw (us := [v0, v1, v2]) rfl hir).mono fun e W' ⟨he, bel⟩ => ?_
 subst he
 exact ⟨_, rfl, _, _, _, [], _, [], hW', trodAll_mk1 (shut_bool Tryz.underlying4 _), (trodAll_cons_mk (Below.trod laidOut (by kernel_rfl) (of_decide_eq_true (by kernel_rfl)) k0 bel lt0) (trodAll_cons_mk (Below.trod laidOut (by kernel_rfl) (of_decide_eq_true (by kernel_rfl)) k1 bel lt1) (trodAll_cons_mk (Below.trod laidOut (by kernel_rfl) (of_decide_eq_true (by kernel_rfl)) k2 bel lt2) trodAll_mk0))), rfl, bel.frame _, fun h => by cases h⟩

theorem proved : Rows.BackFindsUptoSaid :=
 OpenClaim.holds_of_cond 3 Tryz.f3 rfl rfl rfl rfl rfl rfl rfl ⟨rfl, rfl, rfl, rfl, rfl⟩ rfl rfl rfl rfl rfl (by kernel_rfl) Tryz.func3 (by kernel_rfl)
  (of_decide_eq_true (by kernel_rfl)) (by unfold Func.isWrapper; rw [if_neg (by decide +kernel)]; exact ⟨rfl, rfl⟩)
  (fun os started H enc _ F => lifted os started H enc F)
end Go.Proofs.YtbdilgkfnacahaaGreat.backFinds
#print axioms Go.Proofs.YtbdilgkfnacahaaGreat.backFinds.proved
