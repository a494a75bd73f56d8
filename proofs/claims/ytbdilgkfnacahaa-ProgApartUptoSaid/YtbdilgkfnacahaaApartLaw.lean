/- ProgApart, for arguments of bulk at most 1048576: it answers true. -/
import Derived.Test.YtbdilgkfnacahaaAn
import Derived.Test.YtbdilgkfnacahaaQk
import Derived.Test.YtbdilgkfnacahaaQm
import Derived.Test.YtbdilgkfnacahaaRows
import Derived.WalkKit
import Derived.ProofKit
import Derived.OpenShut
import Derived.JoinedCond
import Derived.ChangeOld
namespace Go.Proofs.Ytbdilgkfnacahaa.progApart
open Go.ChangeShapes Go.WideShapes Go.ChangeAt Go.RowKit Go.V
set_option maxRecDepth 100000
set_option maxHeartbeats 4000000
set_option linter.unusedSimpArgs false
set_option linter.unusedVariables false

/-- what a frame holds at a slot -/
def ixF_ApartLaw (fr : Go.V.Fr) (k : Nat) : Go.V.D := Go.V.nth .junk fr.loc k

theorem comp_rows {st : St} {rules : List Nl} (hr : ∀ r ∈ rules, r.ok) (hl : rules.length ≤ 1048576) {y : D} (hy : V.Rows st 1 y (rules.map nlC)) : Ev pv 14 [y] st (compD (compileS (rules.map (·.l)))) st := compile_ev hy hr hl

theorem law {s0 : St} (a : Nl) (ha : a.ok) (b : Nl) (hb : b.ok) : Ev pv 4 [a.d, b.d] s0 (.bool true) s0 := by
 refine Ev.mk1 rfl fi4 rfl rfl rfl ?_
 dsimp only [List.cons_append, List.nil_append, List.length, Nat.reduceSub, Nat.reduceAdd, List.replicate_succ, List.replicate_zero]
 have hSb : (enterSt .ro s0).bs = s0.bs := rfl
 have hF : (enterSt .ro s0).flr ≤ s0.bs.length := Nat.le_refl _
 have hH : Has s0.bs.length (enterSt .ro s0) (enterSt .ro s0) [] := Has.start (Nat.le_refl _) (Nat.le_refl _)
 generalize enterSt .ro s0 = S at *
 have hca := ha.c.cells
 have hcb := hb.c.cells
 have hrs : ∀ ls : List Nl, (∀ r ∈ ls, r.ok) → ∀ l ∈ ls.map (·.l), ∀ n ∈ l, n.rs.length ≤ 1048576 := fun ls hls l hl n hn => by
  obtain ⟨r, hr, rfl⟩ := List.mem_map.1 hl
  exact ((hls r hr).i n hn).2.1
 have ho1 : ∀ r ∈ [a], r.ok := fun r hr => by simp only [List.mem_cons, List.not_mem_nil, or_false] at hr; subst hr; exact ha
 have ho2 : ∀ r ∈ [b], r.ok := fun r hr => by simp only [List.mem_cons, List.not_mem_nil, or_false] at hr; subst hr; exact hb
 have ho3 : ∀ r ∈ [a, b], r.ok := fun r hr => by
  simp only [List.mem_cons, List.not_mem_nil, or_false] at hr
  rcases hr with rfl | rfl
  ·exact ha
  ·exact hb
 have hP := compileS_ok (hrs _ ho1)
 have hQ := compileS_ok (hrs _ ho2)
 have hB := compileS_ok (hrs _ ho3)
 have hc1 : ∀ (st : St) (y : D), V.Rows st 1 y [[a.d]] → Ev pv 14 [y] st (compD (compileS [a.l])) st := fun st y hy => comp_rows ho1 (by simp) hy
 have hc2 : ∀ (st : St) (y : D), V.Rows st 1 y [[b.d]] → Ev pv 14 [y] st (compD (compileS [b.l])) st := fun st y hy => comp_rows ho2 (by simp) hy
 have hc3 : ∀ (st : St) (y : D), V.Rows st 1 y [[a.d], [b.d]] → Ev pv 14 [y] st (compD (compileS [a.l, b.l])) st := fun st y hy => comp_rows ho3 (by simp) hy
 have hcases := apart_cases a.l b.l
 simp only [List.map_cons, List.map_nil] at hP hQ hB
 generalize compileS [a.l] = P at *
 generalize compileS [b.l] = Q at *
 generalize compileS [a.l, b.l] = B at *
 have hdP : Arg s0.bs.length S 4 (.sl ((P.code.map insC).map (elD 4))) (P.code.map insC) := hP.1.c.arg s0.bs.length S
 have hdQ : Arg s0.bs.length S 4 (.sl ((Q.code.map insC).map (elD 4))) (Q.code.map insC) := hQ.1.c.arg s0.bs.length S
 have hdB : Arg s0.bs.length S 4 (.sl ((B.code.map insC).map (elD 4))) (B.code.map insC) := hB.1.c.arg s0.bs.length S
 have hsB : Arg s0.bs.length S 1 (intsV B.starts) (B.starts.map intC) := hB.1.s.arg s0.bs.length S
 have hlP := hP.2
 have hlQ := hQ.2
 have hlB := hB.2
 try refine qy ?_
 repeat refine qq ?_
 try generalize hK : SeqQ _ _ _ _ = K
 refine EvC.reg ?_
 refine qm ?_
 refine EvO.nil ?_
 try subst hK
 try refine qy ?_
 repeat refine qq ?_
 try generalize hK : SeqQ _ _ _ _ = K
 refine EvC.reg ?_
 refine qm ?_
 refine EvO.hlist (s := 1) (vs := [a.d]) hH rfl rfl rfl rfl rfl (Nat.le_of_ble_eq_true rfl) ⟨rfl, (ev rfl), trivial⟩ rfl (by intro v hv; simp only [List.mem_cons, List.not_mem_nil, or_false] at hv; subst hv; exact ⟨by rw [hca.1, hca.2], by rw [hca.2]; rfl⟩) (fun _ => by dsimp only [Fr.put, List.set_cons_succ, List.set_cons_zero] <;> rfl) (fun k10 st hk10 hH => ?_)
 rw [List.map_cons, List.map_nil, hca.2] at hH
 refine EvO.hcall rfl rfl ((hc1 _ _ (hH.rows at0))) (by dsimp only [Fr.put, List.set_cons_succ, List.set_cons_zero] <;> rfl) ?_
 refine qm ?_
 refine qg ?_
 refine qg ?_
 refine qg ?_
 refine qa hH fun k5 st hk5 hH => ?_
 try dsimp only [u2, u1, u3, u4, setMany, u5, u6, D.cells, Nat.reduceAdd, compD, Pg.d, Pg.cs, pgV, insC, intC] at hH
 refine qS hH at0 fun st hH => ?_
 try dsimp only [u2, u1, u3, u4, setMany, u5, u6, D.cells, Nat.reduceAdd, compD, Pg.d, Pg.cs, pgV, insC, intC] at hH
 refine qm ?_
 refine qm ?_
 refine EvO.nil ?_
 try subst hK
 try refine qy ?_
 repeat refine qq ?_
 try generalize hK : SeqQ _ _ _ _ = K
 refine EvC.reg ?_
 refine qm ?_
 refine EvO.hlist (s := 1) (vs := [b.d]) hH rfl rfl rfl rfl rfl (Nat.le_of_ble_eq_true rfl) ⟨rfl, (ev rfl), trivial⟩ rfl (by intro v hv; simp only [List.mem_cons, List.not_mem_nil, or_false] at hv; subst hv; exact ⟨by rw [hcb.1, hcb.2], by rw [hcb.2]; rfl⟩) (fun _ => by dsimp only [Fr.put, List.set_cons_succ, List.set_cons_zero] <;> rfl) (fun k10 st hk10 hH => ?_)
 rw [List.map_cons, List.map_nil, hcb.2] at hH
 refine EvO.hcall rfl rfl ((hc2 _ _ (hH.rows at0))) (by dsimp only [Fr.put, List.set_cons_succ, List.set_cons_zero] <;> rfl) ?_
 refine qm ?_
 refine qg ?_
 refine qg ?_
 refine qg ?_
 refine qa hH fun k8 st hk8 hH => ?_
 try dsimp only [u2, u1, u3, u4, setMany, u5, u6, D.cells, Nat.reduceAdd, compD, Pg.d, Pg.cs, pgV, insC, intC] at hH
 refine qS hH at0 fun st hH => ?_
 try dsimp only [u2, u1, u3, u4, setMany, u5, u6, D.cells, Nat.reduceAdd, compD, Pg.d, Pg.cs, pgV, insC, intC] at hH
 refine qm ?_
 refine qm ?_
 refine EvO.nil ?_
 try subst hK
 try refine qy ?_
 repeat refine qq ?_
 try generalize hK : SeqQ _ _ _ _ = K
 refine EvC.reg ?_
 refine qm ?_
 refine qm ?_
 refine EvO.hlist (s := 1) (vs := [a.d, b.d]) hH rfl rfl rfl rfl rfl (Nat.le_of_ble_eq_true rfl) ⟨rfl, (ev rfl), rfl, (ev rfl), trivial⟩ rfl (by intro v hv; simp only [List.mem_cons, List.not_mem_nil, or_false] at hv; rcases hv with rfl | rfl; exact ⟨by rw [hca.1, hca.2], by rw [hca.2]; rfl⟩; exact ⟨by rw [hcb.1, hcb.2], by rw [hcb.2]; rfl⟩) (fun _ => by dsimp only [Fr.put, List.set_cons_succ, List.set_cons_zero] <;> rfl) (fun k10 st hk10 hH => ?_)
 rw [List.map_cons, List.map_cons, List.map_nil, hca.2, hcb.2] at hH
 refine EvO.hcall rfl rfl ((hc3 _ _ (hH.rows at0))) (by dsimp only [Fr.put, List.set_cons_succ, List.set_cons_zero] <;> rfl) ?_
 refine qm ?_
 refine qg ?_
 refine qg ?_
 refine qg ?_
 refine qa hH fun k11 st hk11 hH => ?_
 try dsimp only [u2, u1, u3, u4, setMany, u5, u6, D.cells, Nat.reduceAdd, compD, Pg.d, Pg.cs, pgV, insC, intC] at hH
 refine qS hH at0 fun st hH => ?_
 try dsimp only [u2, u1, u3, u4, setMany, u5, u6, D.cells, Nat.reduceAdd, compD, Pg.d, Pg.cs, pgV, insC, intC] at hH
 refine qm ?_
 refine qm ?_
 refine EvO.nil ?_
 try subst hK
 try refine qy ?_
 repeat refine qq ?_
 refine EvC.cutL 45 (.bool ((P.e != 0) || (Q.e != 0))) [40, 41, 42, 43, 44] ?_ (fun ff tmp => ?_)
 ·refine qm ?_
  refine qg ?_
  refine qm ?_
  refine EvO.two 42 rfl (fun hg2 => ?_) (fun hg2 => ?_)
  ·refine qs ?_ (hg := wn hg2)
   refine qs ?_ (hg := wn hg2)
   refine qt hg2 ?_
   refine EvO.nil (leafL ?_)
   try dsimp only [setW, List.foldl, nth, u2, u1]
   try dsimp only [Fr.putO, Fr.put, Fr.clean, Fr.ev, Fr.get, nth, Go.V.look, u1, u2, v1, v2, v3, v4, v5, v6, v7, List.length, u3, u4, Nat.reduceSub, Nat.reduceAdd, List.map]
   all_goals (simp [hg2]; done)
  ·refine qm ?_ (hg := wi hg2)
   refine qg ?_ (hg := wi hg2)
   refine qu hg2 ?_
   refine EvO.nil (leafL ?_)
   try dsimp only [setW, List.foldl, nth, u2, u1]
   try dsimp only [Fr.putO, Fr.put, Fr.clean, Fr.ev, Fr.get, nth, Go.V.look, u1, u2, v1, v2, v3, v4, v5, v6, v7, List.length, u3, u4, Nat.reduceSub, Nat.reduceAdd, List.map]
   all_goals (simp [hg2]; done)
 try dsimp only [setW, List.foldl, nth, u2, u1]
 generalize ff 40 = e40
 generalize ff 41 = e41
 generalize ff 42 = e42
 generalize ff 43 = e43
 generalize ff 44 = e44
 try dsimp only [Fr.putO, Fr.put, Fr.clean, Fr.ev, Fr.get, nth, Go.V.look, u1, u2, v1, v2, v3, v4, v5, v6, v7, List.length, u3, u4, Nat.reduceSub, Nat.reduceAdd, List.map]
 try refine qy ?_
 rcases hcases with ⟨h1, h2, h3, h4⟩ | ⟨h1, h2, h3, h4, h5⟩ | ⟨h1, h2, h3, h4, h5, h6, h7⟩
 ·have hT : ((P.e != 0) || (Q.e != 0)) = true := by
   rw [Bool.or_eq_true, bne_iff_ne, bne_iff_ne]; exact h1
  try refine qy ?_
  repeat refine qq ?_
  refine EvC.cond (v := true) (by dsimp only [Fr.ev, Fr.get, nth, Go.V.look]; rw [hT]) (fun _ => ?_) (fun h => by cases h)
  try refine qy ?_
  have hg2 : (B.e != 0) = true := by rw [bne_iff_ne]; exact h2
  have hg8 : (((B.code.length : Nat) : Int) == 0) = true := by rw [h3]; rfl
  have hg15 := h4
  try refine qy ?_
  repeat refine qq ?_
  try generalize hK : SeqQ _ _ _ _ = K
  refine EvC.reg ?_
  refine qm ?_
  refine qg ?_
  refine qm ?_
  refine qp (o := 0) ?_ (hg := wi hg2)
  refine ql hH at0 ?_ (hg := wi hg2)
  refine qn ?_ (hg := wi hg2)
  try simp only [List.length_map, List.length_append, List.length_cons, List.length_nil, List.length_set, List.length_replicate, List.length_reverse]
  refine qg ?_ (hg := wi hg2)
  refine qt hg2 ?_
  refine qm ?_
  refine qm ?_ (hg := wi hg8)
  refine qg ?_ (hg := wi hg8)
  refine qm ?_ (hg := wi hg8)
  refine qg ?_ (hg := wi hg8)
  refine qg ?_ (hg := wi hg8)
  refine qt hg8 ?_
  refine qm ?_
  refine EvO.hcall (wantD_is rfl rfl rfl hg15) rfl (Ev.prim rfl rfl) (by dsimp only [Fr.put, List.set_cons_succ, List.set_cons_zero] <;> rfl) ?_
  refine qt hg15 ?_
  refine qm ?_
  refine EvO.nil ?_
  try subst hK
  try refine qy ?_
  refine EvC.ret ⟨fun i h => (by cases h), _, rfl, leave_ro (by simp) hSb hH (rfl)⟩
 ·have hT : ((P.e != 0) || (Q.e != 0)) = false := by rw [h1, h2]; rfl
  try refine qy ?_
  repeat refine qq ?_
  refine EvC.cond (v := false) (by dsimp only [Fr.ev, Fr.get, nth, Go.V.look]; rw [hT]) (fun h => by cases h) (fun _ => ?_)
  try refine qy ?_
  refine EvC.skip ?_
  try refine qy ?_
  repeat refine qq ?_
  try generalize hK : SeqQ _ _ _ _ = K
  refine EvC.reg ?_
  refine qp (o := 0) ?_
  refine ql hH at4 ?_
  refine qn ?_
  try simp only [List.length_map, List.length_append, List.length_cons, List.length_nil, List.length_set, List.length_replicate, List.length_reverse]
  refine qm ?_
  refine EvO.nil ?_
  try subst hK
  try refine qy ?_
  repeat refine qq ?_
  try generalize hK : SeqQ _ _ _ _ = K
  refine EvC.reg ?_
  refine qm ?_
  refine qp (o := 0) ?_
  refine ql hH at2 ?_
  refine qn ?_
  try simp only [List.length_map, List.length_append, List.length_cons, List.length_nil, List.length_set, List.length_replicate, List.length_reverse]
  refine EvO.addN rfl (ev rfl) (ev rfl) (by omega) (by dsimp only [Fr.put, List.set_cons_succ, List.set_cons_zero] <;> rfl) ?_
  refine qg ?_
  refine EvO.nil ?_
  try subst hK
  try refine qy ?_
  have hcc : decide (((P.code.length + Q.code.length : Nat) : Int) > 400) = true := by rw [decide_eq_true_eq]; omega
  try refine qy ?_
  repeat refine qq ?_
  refine EvC.cond (v := true) (by dsimp only [Fr.ev, Fr.get, nth, Go.V.look]; rw [hcc]) (fun _ => ?_) (fun h => by cases h)
  try refine qy ?_
  have hg2 : (B.e == 12) = true := by rw [h4]; rfl
  have hg6 : (B.w == 1) = true := by rw [h5]; rfl
  try refine qy ?_
  repeat refine qq ?_
  try generalize hK : SeqQ _ _ _ _ = K
  refine EvC.reg ?_
  refine qm ?_
  refine qg ?_
  refine qm ?_
  refine qm ?_ (hg := wi hg2)
  refine qg ?_ (hg := wi hg2)
  refine qt hg2 ?_
  refine qm ?_
  refine EvO.hcall (wantD_is rfl rfl rfl hg6) rfl (Ev.prim rfl rfl) (by dsimp only [Fr.put, List.set_cons_succ, List.set_cons_zero] <;> rfl) ?_
  refine qt hg6 ?_
  refine qm ?_
  refine EvO.nil ?_
  try subst hK
  try refine qy ?_
  refine EvC.ret ⟨fun i h => (by cases h), _, rfl, leave_ro (by simp) hSb hH (rfl)⟩
 ·have hT : ((P.e != 0) || (Q.e != 0)) = false := by rw [h1, h2]; rfl
  try refine qy ?_
  repeat refine qq ?_
  refine EvC.cond (v := false) (by dsimp only [Fr.ev, Fr.get, nth, Go.V.look]; rw [hT]) (fun h => by cases h) (fun _ => ?_)
  try refine qy ?_
  refine EvC.skip ?_
  try refine qy ?_
  repeat refine qq ?_
  try generalize hK : SeqQ _ _ _ _ = K
  refine EvC.reg ?_
  refine qp (o := 0) ?_
  refine ql hH at4 ?_
  refine qn ?_
  try simp only [List.length_map, List.length_append, List.length_cons, List.length_nil, List.length_set, List.length_replicate, List.length_reverse]
  refine qm ?_
  refine EvO.nil ?_
  try subst hK
  try refine qy ?_
  repeat refine qq ?_
  try generalize hK : SeqQ _ _ _ _ = K
  refine EvC.reg ?_
  refine qm ?_
  refine qp (o := 0) ?_
  refine ql hH at2 ?_
  refine qn ?_
  try simp only [List.length_map, List.length_append, List.length_cons, List.length_nil, List.length_set, List.length_replicate, List.length_reverse]
  refine EvO.addN rfl (ev rfl) (ev rfl) (by omega) (by dsimp only [Fr.put, List.set_cons_succ, List.set_cons_zero] <;> rfl) ?_
  refine qg ?_
  refine EvO.nil ?_
  try subst hK
  try refine qy ?_
  have hcc : decide (((P.code.length + Q.code.length : Nat) : Int) > 400) = false := by rw [decide_eq_false_iff_not]; omega
  try refine qy ?_
  repeat refine qq ?_
  refine EvC.cond (v := false) (by dsimp only [Fr.ev, Fr.get, nth, Go.V.look]; rw [hcc]) (fun h => by cases h) (fun _ => ?_)
  try refine qy ?_
  refine EvC.skip ?_
  try refine qy ?_
  have hBl : B.code.length = P.code.length + Q.code.length := by rw [h6, List.length_append, List.length_map]
  have hg2 : (B.e != 0) = false := by rw [h4]; rfl
  have hg13 : (((B.code.length : Nat) : Int) != ((P.code.length + Q.code.length : Nat) : Int)) = false := by rw [hBl]; simp
  have hsame : ∀ (st : St) (y : D), V.Rows st 1 y (([0, ((P.code.length : Nat) : Int)] : List Int).map intC) → Ev pv 19 [intsV B.starts, y] st (.bool true) st := fun st y hy => by
   have := sameInt_ev (s0 := st) (x := intsV B.starts) (y := y) (l := B.starts) (m := [0, ((P.code.length : Nat) : Int)]) (hB.1.s.rows st) hy (by have := hB.1.sl; exact Nat.le_trans this (by decide)) (by simp)
   rwa [decide_eq_true h5] at this
  try refine qy ?_
  repeat refine qq ?_
  try generalize hK : SeqQ _ _ _ _ = K
  refine EvC.reg ?_
  refine qm ?_
  refine qg ?_
  refine qm ?_
  refine qp (o := 0) ?_ (hg := wi hg2)
  refine ql hH at0 ?_ (hg := wi hg2)
  refine qn ?_ (hg := wi hg2)
  try simp only [List.length_map, List.length_append, List.length_cons, List.length_nil, List.length_set, List.length_replicate, List.length_reverse]
  refine qm ?_ (hg := wi hg2)
  refine qp (o := 0) ?_ (hg := wi hg2)
  refine ql hH at2 ?_ (hg := wi hg2)
  refine qn ?_ (hg := wi hg2)
  try simp only [List.length_map, List.length_append, List.length_cons, List.length_nil, List.length_set, List.length_replicate, List.length_reverse]
  refine EvO.addZ (z := ((P.code.length + Q.code.length : Nat) : Int)) (wantD_is rfl rfl rfl hg2) (ev rfl) (ev rfl) (by (try simp only [List.length_reverse, List.length_cons, List.length_nil, List.length_append, List.length_map, List.length_set]); rw [wrap_i64 (by omega) (by omega)] <;> omega) (by dsimp only [Fr.put, List.set_cons_succ, List.set_cons_zero] <;> rfl) ?_
  refine qg ?_ (hg := wi hg2)
  refine qu hg2 ?_
  refine qm ?_
  refine qp (o := 1) ?_ (hg := wi hg13)
  refine ql hH at0 ?_ (hg := wi hg13)
  refine qm ?_ (hg := wi hg13)
  refine qh (s := 1) (vs := [_, _]) hH (fun k99 st hk99 hH => ?_) (hg := wi hg13)
  try dsimp only [u2, u1, u3, u4, setMany, u5, u6, D.cells, Nat.reduceAdd, compD, Pg.d, Pg.cs, pgV, insC, intC] at hH
  refine EvO.hcall (wantD_is rfl rfl rfl hg13) rfl ((hsame _ _ (hH.rows at0))) (by dsimp only [Fr.put, List.set_cons_succ, List.set_cons_zero] <;> rfl) ?_
  refine qg ?_ (hg := wi hg13)
  refine qu hg13 ?_
  refine EvO.nil ?_
  try subst hK
  try refine qy ?_
  repeat refine qq ?_
  refine EvC.cond (v := false) (by rfl) (fun h => by cases h) (fun _ => ?_)
  try refine qy ?_
  refine EvC.skip ?_
  try refine qy ?_
  repeat refine qq ?_
  try generalize hK : SeqQ _ _ _ _ = K
  refine EvC.reg ?_
  refine qm ?_
  refine EvO.nil ?_
  try subst hK
  try refine qy ?_
  have hH : Has s0.bs.length S st (.box k11 (.mem 0 false [.sl ((B.code.map insC).map (elD 4)), intsV B.starts]) :: .box k8 (.mem 0 false [.sl ((Q.code.map insC).map (elD 4)), intsV Q.starts]) :: .box k5 (.mem 0 false [.sl ((P.code.map insC).map (elD 4)), intsV P.starts]) :: []) := ((((hH.erase 0).erase 1).erase 2).erase 3)
  try refine qy ?_
  repeat refine qq ?_
  refine EvC.block ?_
  refine EvC.loop (fun mm fr st => ∃ (i : Nat), fr.clean = ⟨133, [ixF_ApartLaw fr 0, ixF_ApartLaw fr 1, ixF_ApartLaw fr 2, ixF_ApartLaw fr 3, .bool false, .ptr k5 0 0, ixF_ApartLaw fr 6, ixF_ApartLaw fr 7, .ptr k8 0 0, ixF_ApartLaw fr 9, ixF_ApartLaw fr 10, .ptr k11 0 0, ixF_ApartLaw fr 12, ixF_ApartLaw fr 13, .int .i64 (P.code.length : Nat), .int .i64 (i : Nat), ixF_ApartLaw fr 16, ixF_ApartLaw fr 17, ixF_ApartLaw fr 18, ixF_ApartLaw fr 19, ixF_ApartLaw fr 20, ixF_ApartLaw fr 21, ixF_ApartLaw fr 22, ixF_ApartLaw fr 23, ixF_ApartLaw fr 24, ixF_ApartLaw fr 25, ixF_ApartLaw fr 26, ixF_ApartLaw fr 27, ixF_ApartLaw fr 28, ixF_ApartLaw fr 29, ixF_ApartLaw fr 30, ixF_ApartLaw fr 31, ixF_ApartLaw fr 32, ixF_ApartLaw fr 33, ixF_ApartLaw fr 34, ixF_ApartLaw fr 35, ixF_ApartLaw fr 36, ixF_ApartLaw fr 37, ixF_ApartLaw fr 38, ixF_ApartLaw fr 39, ixF_ApartLaw fr 40, ixF_ApartLaw fr 41, ixF_ApartLaw fr 42, ixF_ApartLaw fr 43, ixF_ApartLaw fr 44, ixF_ApartLaw fr 45, ixF_ApartLaw fr 46, ixF_ApartLaw fr 47, ixF_ApartLaw fr 48, ixF_ApartLaw fr 49, ixF_ApartLaw fr 50, ixF_ApartLaw fr 51, ixF_ApartLaw fr 52, ixF_ApartLaw fr 53, ixF_ApartLaw fr 54, ixF_ApartLaw fr 55, ixF_ApartLaw fr 56, ixF_ApartLaw fr 57, ixF_ApartLaw fr 58, ixF_ApartLaw fr 59, ixF_ApartLaw fr 60, ixF_ApartLaw fr 61, ixF_ApartLaw fr 62, ixF_ApartLaw fr 63, ixF_ApartLaw fr 64, ixF_ApartLaw fr 65, ixF_ApartLaw fr 66, ixF_ApartLaw fr 67, ixF_ApartLaw fr 68, ixF_ApartLaw fr 69, ixF_ApartLaw fr 70, ixF_ApartLaw fr 71, ixF_ApartLaw fr 72, ixF_ApartLaw fr 73, ixF_ApartLaw fr 74, ixF_ApartLaw fr 75, ixF_ApartLaw fr 76, ixF_ApartLaw fr 77, ixF_ApartLaw fr 78, ixF_ApartLaw fr 79, ixF_ApartLaw fr 80, ixF_ApartLaw fr 81, ixF_ApartLaw fr 82, ixF_ApartLaw fr 83, ixF_ApartLaw fr 84, ixF_ApartLaw fr 85, ixF_ApartLaw fr 86, ixF_ApartLaw fr 87, ixF_ApartLaw fr 88, ixF_ApartLaw fr 89, ixF_ApartLaw fr 90, ixF_ApartLaw fr 91, ixF_ApartLaw fr 92, ixF_ApartLaw fr 93, ixF_ApartLaw fr 94, ixF_ApartLaw fr 95, ixF_ApartLaw fr 96, ixF_ApartLaw fr 97, ixF_ApartLaw fr 98, ixF_ApartLaw fr 99, ixF_ApartLaw fr 100, ixF_ApartLaw fr 101, ixF_ApartLaw fr 102, ixF_ApartLaw fr 103, ixF_ApartLaw fr 104, ixF_ApartLaw fr 105, ixF_ApartLaw fr 106, ixF_ApartLaw fr 107, ixF_ApartLaw fr 108, ixF_ApartLaw fr 109, ixF_ApartLaw fr 110, ixF_ApartLaw fr 111, ixF_ApartLaw fr 112, ixF_ApartLaw fr 113, ixF_ApartLaw fr 114, ixF_ApartLaw fr 115, ixF_ApartLaw fr 116, ixF_ApartLaw fr 117, ixF_ApartLaw fr 118, ixF_ApartLaw fr 119, ixF_ApartLaw fr 120, ixF_ApartLaw fr 121, ixF_ApartLaw fr 122, ixF_ApartLaw fr 123, ixF_ApartLaw fr 124, ixF_ApartLaw fr 125, ixF_ApartLaw fr 126, ixF_ApartLaw fr 127, ixF_ApartLaw fr 128, ixF_ApartLaw fr 129, ixF_ApartLaw fr 130, ixF_ApartLaw fr 131, ixF_ApartLaw fr 132], []⟩ ∧ Has s0.bs.length S st (.box k11 (.mem 0 false [.sl ((B.code.map insC).map (elD 4)), intsV B.starts]) :: .box k8 (.mem 0 false [.sl ((Q.code.map insC).map (elD 4)), intsV Q.starts]) :: .box k5 (.mem 0 false [.sl ((P.code.map insC).map (elD 4)), intsV P.starts]) :: []) ∧ (i + mm = B.code.length)) (B.code.length) ?_ ?_
  ·exact ⟨0, rfl, hH, by omega⟩
  rintro mm fr st ⟨i, hfr, hH, hi⟩
  rw [hfr]
  clear hfr
  try generalize ixF_ApartLaw fr = ee
  clear fr
  try refine qy ?_
  repeat refine qq ?_
  try generalize hK : SeqQ _ _ _ _ = K
  refine EvC.reg ?_
  refine qm ?_
  refine qp (o := 0) ?_
  refine ql hH at0 ?_
  refine qn ?_
  try simp only [List.length_map, List.length_append, List.length_cons, List.length_nil, List.length_set, List.length_replicate, List.length_reverse]
  refine qg ?_
  refine EvO.nil ?_
  try subst hK
  try refine qy ?_
  by_cases hil : i < B.code.length
  ·obtain ⟨x, hx⟩ : ∃ x, B.code[i]? = some x := ⟨B.code[i]'hil, List.getElem?_eq_getElem _⟩
   have hxo := hB.1.i x (List.mem_of_getElem? hx)
   have hrx := ins_get hx
   try refine qy ?_
   repeat refine qq ?_
   refine EvC.cond (v := true) (by dsimp only [Fr.ev, Fr.get, nth, Go.V.look]; simp; omega) (fun _ => ?_) (fun h => by cases h)
   try refine qy ?_
   refine EvC.skip ?_
   try refine qy ?_
   repeat refine qq ?_
   refine EvC.block ?_
   try refine qy ?_
   repeat refine qq ?_
   try generalize hK : SeqQ _ _ _ _ = K
   refine EvC.reg ?_
   refine qp (o := 0) ?_
   refine ql hH at0 ?_
   refine qm ?_
   refine qr fun p113 hp113 => ?_
   refine EvO.rloadS rfl (ev rfl) (by assumption) rfl (by dsimp only [Fr.put, List.set_cons_succ, List.set_cons_zero] <;> rfl) ?_
   refine qa hH fun k16 st hk16 hH => ?_
   try dsimp only [u2, u1, u3, u4, setMany, u5, u6, D.cells, Nat.reduceAdd, compD, Pg.d, Pg.cs, pgV, insC, intC] at hH
   refine qS hH at0 fun st hH => ?_
   try dsimp only [u2, u1, u3, u4, setMany, u5, u6, D.cells, Nat.reduceAdd, compD, Pg.d, Pg.cs, pgV, insC, intC] at hH
   refine EvO.nil ?_
   try subst hK
   try refine qy ?_
   repeat refine qq ?_
   try generalize hK : SeqQ _ _ _ _ = K
   refine EvC.reg ?_
   refine EvO.go (d := .agg [.int .i64 0, .int .i64 0, .int .i64 0, .nul]) (st1 := _) rfl rfl rfl (by dsimp only [Fr.put, List.set_cons_succ, List.set_cons_zero] <;> rfl) ?_
   refine qa hH fun k17 st hk17 hH => ?_
   try dsimp only [u2, u1, u3, u4, setMany, u5, u6, D.cells, Nat.reduceAdd, compD, Pg.d, Pg.cs, pgV, insC, intC] at hH
   refine qS hH at0 fun st hH => ?_
   try dsimp only [u2, u1, u3, u4, setMany, u5, u6, D.cells, Nat.reduceAdd, compD, Pg.d, Pg.cs, pgV, insC, intC] at hH
   refine EvO.nil ?_
   try subst hK
   try refine qy ?_
   repeat refine qq ?_
   try generalize hK : SeqQ _ _ _ _ = K
   refine EvC.reg ?_
   refine qm ?_
   refine qm ?_
   refine qg ?_
   refine EvO.nil ?_
   try subst hK
   try refine qy ?_
   repeat refine qq ?_
   refine EvC.merge (fun fr st => ∃  (tmp : List (Nat × D)), fr = ⟨133, [ixF_ApartLaw fr 0, ixF_ApartLaw fr 1, ixF_ApartLaw fr 2, ixF_ApartLaw fr 3, .bool false, .ptr k5 0 0, ixF_ApartLaw fr 6, ixF_ApartLaw fr 7, .ptr k8 0 0, ixF_ApartLaw fr 9, ixF_ApartLaw fr 10, .ptr k11 0 0, ixF_ApartLaw fr 12, ixF_ApartLaw fr 13, .int .i64 (P.code.length : Nat), .int .i64 (i : Nat), .ptr k16 0 0, .ptr k17 0 0, ixF_ApartLaw fr 18, ixF_ApartLaw fr 19, ixF_ApartLaw fr 20, ixF_ApartLaw fr 21, ixF_ApartLaw fr 22, ixF_ApartLaw fr 23, ixF_ApartLaw fr 24, ixF_ApartLaw fr 25, ixF_ApartLaw fr 26, ixF_ApartLaw fr 27, ixF_ApartLaw fr 28, ixF_ApartLaw fr 29, ixF_ApartLaw fr 30, ixF_ApartLaw fr 31, ixF_ApartLaw fr 32, ixF_ApartLaw fr 33, ixF_ApartLaw fr 34, ixF_ApartLaw fr 35, ixF_ApartLaw fr 36, ixF_ApartLaw fr 37, ixF_ApartLaw fr 38, ixF_ApartLaw fr 39, ixF_ApartLaw fr 40, ixF_ApartLaw fr 41, ixF_ApartLaw fr 42, ixF_ApartLaw fr 43, ixF_ApartLaw fr 44, ixF_ApartLaw fr 45, ixF_ApartLaw fr 46, ixF_ApartLaw fr 47, ixF_ApartLaw fr 48, ixF_ApartLaw fr 49, ixF_ApartLaw fr 50, ixF_ApartLaw fr 51, ixF_ApartLaw fr 52, ixF_ApartLaw fr 53, ixF_ApartLaw fr 54, ixF_ApartLaw fr 55, ixF_ApartLaw fr 56, ixF_ApartLaw fr 57, ixF_ApartLaw fr 58, ixF_ApartLaw fr 59, ixF_ApartLaw fr 60, ixF_ApartLaw fr 61, ixF_ApartLaw fr 62, ixF_ApartLaw fr 63, ixF_ApartLaw fr 64, ixF_ApartLaw fr 65, ixF_ApartLaw fr 66, ixF_ApartLaw fr 67, ixF_ApartLaw fr 68, ixF_ApartLaw fr 69, ixF_ApartLaw fr 70, ixF_ApartLaw fr 71, ixF_ApartLaw fr 72, ixF_ApartLaw fr 73, ixF_ApartLaw fr 74, ixF_ApartLaw fr 75, ixF_ApartLaw fr 76, ixF_ApartLaw fr 77, ixF_ApartLaw fr 78, ixF_ApartLaw fr 79, ixF_ApartLaw fr 80, ixF_ApartLaw fr 81, ixF_ApartLaw fr 82, ixF_ApartLaw fr 83, ixF_ApartLaw fr 84, ixF_ApartLaw fr 85, ixF_ApartLaw fr 86, ixF_ApartLaw fr 87, ixF_ApartLaw fr 88, ixF_ApartLaw fr 89, ixF_ApartLaw fr 90, ixF_ApartLaw fr 91, ixF_ApartLaw fr 92, ixF_ApartLaw fr 93, ixF_ApartLaw fr 94, ixF_ApartLaw fr 95, ixF_ApartLaw fr 96, ixF_ApartLaw fr 97, ixF_ApartLaw fr 98, ixF_ApartLaw fr 99, ixF_ApartLaw fr 100, ixF_ApartLaw fr 101, ixF_ApartLaw fr 102, ixF_ApartLaw fr 103, ixF_ApartLaw fr 104, ixF_ApartLaw fr 105, ixF_ApartLaw fr 106, ixF_ApartLaw fr 107, ixF_ApartLaw fr 108, ixF_ApartLaw fr 109, ixF_ApartLaw fr 110, ixF_ApartLaw fr 111, ixF_ApartLaw fr 112, ixF_ApartLaw fr 113, ixF_ApartLaw fr 114, ixF_ApartLaw fr 115, ixF_ApartLaw fr 116, ixF_ApartLaw fr 117, ixF_ApartLaw fr 118, ixF_ApartLaw fr 119, ixF_ApartLaw fr 120, ixF_ApartLaw fr 121, ixF_ApartLaw fr 122, ixF_ApartLaw fr 123, ixF_ApartLaw fr 124, ixF_ApartLaw fr 125, ixF_ApartLaw fr 126, ixF_ApartLaw fr 127, ixF_ApartLaw fr 128, ixF_ApartLaw fr 129, ixF_ApartLaw fr 130, ixF_ApartLaw fr 131, ixF_ApartLaw fr 132], tmp⟩ ∧ Has s0.bs.length S st (.box k17 (.mem 0 false (insC x)) :: .box k16 (.mem 0 false (insC x)) :: .box k11 (.mem 0 false [.sl ((B.code.map insC).map (elD 4)), intsV B.starts]) :: .box k8 (.mem 0 false [.sl ((Q.code.map insC).map (elD 4)), intsV Q.starts]) :: .box k5 (.mem 0 false [.sl ((P.code.map insC).map (elD 4)), intsV P.starts]) :: [])) ?_ ?_
   ·try refine qy ?_
    repeat refine qq ?_
    refine qc (fun hin => ?_) (fun hin => ?_) <;> try simp only [cs] at hin
    ·have hxp : P.code[i]? = some x := by rw [h6, List.getElem?_append_left (by omega)] at hx; exact hx
     have hrp := ins_get hxp
     try refine qy ?_
     repeat refine qq ?_
     try generalize hK : SeqQ _ _ _ _ = K
     refine EvC.reg ?_
     refine qp (o := 0) ?_
     refine ql hH at4 ?_
     refine qm ?_
     refine qr fun p122 hp122 => ?_
     refine EvO.rloadS rfl (ev rfl) (by assumption) rfl (by dsimp only [Fr.put, List.set_cons_succ, List.set_cons_zero] <;> rfl) ?_
     refine qS hH at0 fun st hH => ?_
     try dsimp only [u2, u1, u3, u4, setMany, u5, u6, D.cells, Nat.reduceAdd, compD, Pg.d, Pg.cs, pgV, insC, intC] at hH
     refine EvO.nil ?_
     try subst hK
     try refine qy ?_
     exact ⟨_, rfl, hH⟩
    ·have hql : i - P.code.length < Q.code.length := by omega
     obtain ⟨q, hq⟩ : ∃ q, Q.code[i - P.code.length]? = some q := ⟨Q.code[i - P.code.length]'hql, List.getElem?_eq_getElem _⟩
     have hxq : x = wantI P.code.length q := by
      rw [h6, List.getElem?_append_right (by omega), List.getElem?_map, hq] at hx
      exact (Option.some.inj hx).symm
     have hrq := ins_get hq
     have hqo := hQ.1.i q (List.mem_of_getElem? hq)
     have hqb := h7 q (List.mem_of_getElem? hq)
     try refine qy ?_
     repeat refine qq ?_
     try generalize hK : SeqQ _ _ _ _ = K
     refine EvC.reg ?_
     refine qp (o := 0) ?_
     refine ql hH at3 ?_
     refine qm ?_
     refine qm ?_
     refine EvO.subN rfl (ev rfl) (ev rfl) (by omega) (by omega) (by dsimp only [Fr.put, List.set_cons_succ, List.set_cons_zero] <;> rfl) ?_
     refine qr fun p129 hp129 => ?_
     refine EvO.rloadS rfl (ev rfl) (by assumption) rfl (by dsimp only [Fr.put, List.set_cons_succ, List.set_cons_zero] <;> rfl) ?_
     refine qS hH at0 fun st hH => ?_
     try dsimp only [u2, u1, u3, u4, setMany, u5, u6, D.cells, Nat.reduceAdd, compD, Pg.d, Pg.cs, pgV, insC, intC] at hH
     refine EvO.nil ?_
     try subst hK
     try refine qy ?_
     repeat refine qq ?_
     try generalize hK : SeqQ _ _ _ _ = K
     refine EvC.reg ?_
     refine qp (o := 0) ?_
     refine ql hH at0 ?_
     refine EvO.nil ?_
     try subst hK
     try refine qy ?_
     repeat refine qq ?_
     refine EvC.block ?_
     try refine qy ?_
     repeat refine qq ?_
     try generalize hK : SeqQ _ _ _ _ = K
     refine EvC.reg ?_
     refine qg ?_
     refine qm ?_
     refine EvO.nil ?_
     try subst hK
     try refine qy ?_
     repeat refine qq ?_
     refine qc (fun q2 => ?_) (fun q2 => ?_) <;> try simp only [cs] at q2
     ·have hxI : insC x = [.int .i64 q.op, .int .i64 (q.x + (P.code.length : Nat)), .int .i64 (q.y + (P.code.length : Nat)), q.rd] := by
       rw [hxq]; unfold wantI; rw [if_pos q2, q2]; rfl
      have hqb := hqb (.inl q2)
      have hqb2 := hqb.2 q2
      try refine qy ?_
      repeat refine qq ?_
      try generalize hK : SeqQ _ _ _ _ = K
      refine EvC.reg ?_
      refine qp (o := 1) ?_
      refine ql hH at0 ?_
      refine qm ?_
      refine EvO.addZ (z := (q.x + (P.code.length : Nat))) rfl (ev rfl) (ev rfl) (by (try simp only [List.length_reverse, List.length_cons, List.length_nil, List.length_append, List.length_map, List.length_set]); rw [wrap_i64 (by omega) (by omega)] <;> omega) (put_T rfl _) ?_
      refine qp (o := 2) ?_
      refine ql hH at0 ?_
      refine qm ?_
      refine EvO.addZ (z := (q.y + (P.code.length : Nat))) rfl (ev rfl) (ev rfl) (by (try simp only [List.length_reverse, List.length_cons, List.length_nil, List.length_append, List.length_map, List.length_set]); rw [wrap_i64 (by omega) (by omega)] <;> omega) (put_T rfl _) ?_
      refine qp (o := 1) ?_
      refine qT hH at0 fun st hH => ?_
      try dsimp only [u2, u1, u3, u4, setMany, u5, u6, D.cells, Nat.reduceAdd, compD, Pg.d, Pg.cs, pgV, insC, intC] at hH
      refine qp (o := 2) ?_
      refine qT hH at0 fun st hH => ?_
      try dsimp only [u2, u1, u3, u4, setMany, u5, u6, D.cells, Nat.reduceAdd, compD, Pg.d, Pg.cs, pgV, insC, intC] at hH
      refine EvO.nil ?_
      try subst hK
      try refine qy ?_
      exact ⟨_, rfl, (by rw [← hxI] at hH; exact hH)⟩
     ·try refine qy ?_
      repeat refine qq ?_
      try generalize hK : SeqQ _ _ _ _ = K
      refine EvC.reg ?_
      refine qg ?_
      refine qm ?_
      refine EvO.nil ?_
      try subst hK
      try refine qy ?_
      repeat refine qq ?_
      refine qc (fun q3 => ?_) (fun q3 => ?_) <;> try simp only [cs] at q3
      ·have hxI : insC x = [.int .i64 q.op, .int .i64 (q.x + (P.code.length : Nat)), .int .i64 q.y, q.rd] := by
        rw [hxq]; unfold wantI; rw [if_neg q2, if_pos q3, q3]; rfl
       have hqb := hqb (.inr q3)
       try refine qy ?_
       repeat refine qq ?_
       try generalize hK : SeqQ _ _ _ _ = K
       refine EvC.reg ?_
       refine qp (o := 1) ?_
       refine ql hH at0 ?_
       refine qm ?_
       refine EvO.addZ (z := (q.x + (P.code.length : Nat))) rfl (ev rfl) (ev rfl) (by (try simp only [List.length_reverse, List.length_cons, List.length_nil, List.length_append, List.length_map, List.length_set]); rw [wrap_i64 (by omega) (by omega)] <;> omega) (put_T rfl _) ?_
       refine qp (o := 1) ?_
       refine qT hH at0 fun st hH => ?_
       try dsimp only [u2, u1, u3, u4, setMany, u5, u6, D.cells, Nat.reduceAdd, compD, Pg.d, Pg.cs, pgV, insC, intC] at hH
       refine EvO.nil ?_
       try subst hK
       try refine qy ?_
       exact ⟨_, rfl, (by rw [← hxI] at hH; exact hH)⟩
      ·try refine qy ?_
       repeat refine qq ?_
       try generalize hK : SeqQ _ _ _ _ = K
       refine EvC.reg ?_
       refine qg ?_
       refine qm ?_
       refine EvO.nil ?_
       try subst hK
       try refine qy ?_
       repeat refine qq ?_
       refine qc (fun q7 => ?_) (fun q7 => ?_) <;> try simp only [cs] at q7
       ·have hxI : insC x = [.int .i64 q.op, .int .i64 1, .int .i64 q.y, q.rd] := by
         rw [hxq]; unfold wantI; rw [if_neg q2, if_neg q3, if_pos q7, q7]; rfl
        try refine qy ?_
        repeat refine qq ?_
        try generalize hK : SeqQ _ _ _ _ = K
        refine EvC.reg ?_
        refine qp (o := 1) ?_
        refine qT hH at0 fun st hH => ?_
        try dsimp only [u2, u1, u3, u4, setMany, u5, u6, D.cells, Nat.reduceAdd, compD, Pg.d, Pg.cs, pgV, insC, intC] at hH
        refine EvO.nil ?_
        try subst hK
        try refine qy ?_
        exact ⟨_, rfl, (by rw [← hxI] at hH; exact hH)⟩
       ·have hxI : x = q := by
         rw [hxq]; unfold wantI; rw [if_neg q2, if_neg q3, if_neg q7]
        subst hxI
        refine EvC.skip ?_
        try refine qy ?_
        exact ⟨_, rfl, hH⟩
   ·rintro fr st ⟨tmp, hfr, hH⟩
    rw [hfr]
    clear hfr
    try generalize ixF_ApartLaw fr = ee
    clear fr
    try refine qy ?_
    have hg5 : (x.op != x.op) = false := by simp
    have hg12 : (x.x != x.x) = false := by simp
    have hg19 : (x.y != x.y) = false := by simp
    have hsr : ∀ st : St, Ev pv 20 [x.rd, x.rd] st (.bool true) st := fun st => by
     have := sameRange_ev (s0 := st) (hxo.1.rows st) (hxo.1.rows st) (Nat.le_trans hxo.2 (by decide)) (Nat.le_trans hxo.2 (by decide))
     rwa [decide_eq_true rfl] at this
    try refine qy ?_
    repeat refine qq ?_
    try generalize hK : SeqQ _ _ _ _ = K
    refine EvC.reg ?_
    refine qp (o := 0) ?_
    refine ql hH at1 ?_
    refine qp (o := 0) ?_
    refine ql hH at0 ?_
    refine qg ?_
    refine qm ?_
    refine qp (o := 1) ?_ (hg := wi hg5)
    refine ql hH at1 ?_ (hg := wi hg5)
    refine qp (o := 1) ?_ (hg := wi hg5)
    refine ql hH at0 ?_ (hg := wi hg5)
    refine qg ?_ (hg := wi hg5)
    refine qu hg5 ?_
    refine qm ?_
    refine qp (o := 2) ?_ (hg := wi hg12)
    refine ql hH at1 ?_ (hg := wi hg12)
    refine qp (o := 2) ?_ (hg := wi hg12)
    refine ql hH at0 ?_ (hg := wi hg12)
    refine qg ?_ (hg := wi hg12)
    refine qu hg12 ?_
    refine qm ?_
    refine qp (o := 3) ?_ (hg := wi hg19)
    refine ql hH at1 ?_ (hg := wi hg19)
    refine qp (o := 3) ?_ (hg := wi hg19)
    refine ql hH at0 ?_ (hg := wi hg19)
    refine EvO.hcall (wantD_is rfl rfl rfl hg19) rfl ((hsr _)) (put_T rfl _) ?_
    refine qg ?_ (hg := wi hg19)
    refine qu hg19 ?_
    refine EvO.nil ?_
    try subst hK
    try refine qy ?_
    repeat refine qq ?_
    refine EvC.cond (v := false) (by dsimp only [Fr.ev, Fr.get, nth, Go.V.look]; rfl) (fun h => by cases h) (fun _ => ?_)
    try refine qy ?_
    refine EvC.skip ?_
    try refine qy ?_
    repeat refine qq ?_
    try generalize hK : SeqQ _ _ _ _ = K
    refine EvC.reg ?_
    refine qm ?_
    refine qA ?_
    refine qm ?_
    refine EvO.nil ?_
    try subst hK
    try refine qy ?_
    exact ⟨mm - 1, by omega, ⟨i + 1, rfl, hH.drop 2, by omega⟩⟩
  ·try refine qy ?_
   repeat refine qq ?_
   refine EvC.cond (v := false) (by dsimp only [Fr.ev, Fr.get, nth, Go.V.look]; simp; omega) (fun h => by cases h) (fun _ => ?_)
   try refine qy ?_
   refine EvC.exit ?_
   try refine qy ?_
   repeat refine qq ?_
   try generalize hK : SeqQ _ _ _ _ = K
   refine EvC.reg ?_
   refine EvO.hcall rfl rfl (Ev.prim rfl rfl) (put_T rfl _) ?_
   refine qm ?_
   refine EvO.nil ?_
   try subst hK
   try refine qy ?_
   refine EvC.ret ⟨fun i h => (by cases h), _, rfl, leave_ro (by simp) hSb hH (rfl)⟩

theorem own : ownKnob Try.prog.godebug = none := by kernel_rfl
theorem laidOut : laidOutB Try.prog = true := by kernel_rfl

theorem lifted (os : Os) (started : os.Started) (H : Type) (enc : TypeId × Value → H) (F : Stop.Interp) :
  ReturnsInHanded {} Try.checked os 4 .any ((Rows.OpenSpec.upto Rows.progApartSpec).pre6 enc Try.prog Try.f4 Rows.progApartUptoRow.domain false) (((Rows.OpenSpec.upto Rows.progApartSpec).at F).post enc Try.prog Try.f4 false true false false) := by
 refine returnsInHanded_of_cond (C := Try.checked) (s := Rows.OpenSpec.upto Rows.progApartSpec) (k := Rows.uptoSmall) rfl own started (by kernel_rfl) Try.func4
  (OpenSpec.witness (enc := enc) (C := Try.checked) (s := Rows.OpenSpec.upto Rows.progApartSpec) (k := Rows.uptoSmall) rfl false ⟨#[], #[.slice none 0 0, .slice none 0 0], []⟩ 8 (by kernel_rfl) (by kernel_rfl) (by kernel_rfl)
   (x := ([.nil, .nil], [], [])) (by kernel_rfl) rfl (by kernel_rfl)) ?_
 intro W base args ds gs before hval hW _ hk _
 have hW' := hW
 obtain ⟨p, q, hA0, hV, rfl, hfz, hnd⟩ := hW
 have hA : DataW.TrodAll enc Try.prog W 0 (fun _ => true) true Try.f4.params.toList args.toList ds p := hA0
 rw [Try.params4] at hA hval
 obtain ⟨v0, vs0, d0, ds0, p0, q0, hargs, rfl, rfl, h0, r0⟩ := trodAll_cons hA
 obtain ⟨v1, vs1, d1, ds1, p1, q1, rfl, rfl, rfl, h1, r1⟩ := trodAll_cons r0
 obtain ⟨rfl, rfl, rfl⟩ := trodAll_nil r1
 obtain rfl : args = #[v0, v1] := by cases args; simp_all
 obtain ⟨rfl, rfl⟩ := trodVars_none hV
 simp only [Rows.uptoSmall, List.append_nil, List.nil_append, List.singleton_append, List.cons_append, decide_eq_true_eq, Rows.uptoBulkAll] at hk
 have i0 := trod_ir h0 (n := 12) (by kernel_rfl) (hval 0 24 v0 rfl rfl)
 have k0 := h0
 have lt0 : ∀ x ∈ p0, x.block < W.heap.size := by obtain ⟨m, hm⟩ := k0; exact DataW.trod_lt m _ _ _ hm
 obtain ⟨b0, hb0, ok0⟩ := arg_nodes (Rd.of h0)
 have i1 := trod_ir h1 (n := 12) (by kernel_rfl) (hval 1 24 v1 rfl rfl)
 have k1 := h1
 have lt1 : ∀ x ∈ p1, x.block < W.heap.size := by obtain ⟨m, hm⟩ := k1; exact DataW.trod_lt m _ _ _ hm
 obtain ⟨b1, hb1, ok1⟩ := arg_nodes (Rd.of h1)
 have hlaw : Ev pv 4 [dval d0, dval d1] ⟨[], 0, 0⟩ (.bool true) ⟨[], 0, 0⟩ := by
  rw [hb0, hb1]
  exact law b0 (ok0 (by omega)) b1 (ok1 (by omega))
 have hir : ∀ (i : Nat) c v, [dval d0, dval d1][i]? = some c → [v0, v1][i]? = some v → IR W (fun b => b < W.heap.size) c v := by
  intro i c v hc hv
  match i, hc, hv with
  | 0, hc, hv => cases hc; cases hv; exact i0
  | 1, hc, hv => cases hc; cases hv; exact i1
 clear hA0
 refine (law_calls view hlaw (us := [v0, v1]) rfl hir).mono fun e W' ⟨he, bel⟩ => ?_
 subst he
 exact ⟨_, rfl, _, _, _, [], _, [], hW', trodAll_mk1 (shut_bool Try.underlying4 _), (trodAll_cons_mk (Below.trod laidOut (by kernel_rfl) (of_decide_eq_true (by kernel_rfl)) k0 bel lt0) (trodAll_cons_mk (Below.trod laidOut (by kernel_rfl) (of_decide_eq_true (by kernel_rfl)) k1 bel lt1) trodAll_mk0)), rfl, bel.frame _, fun h => by cases h⟩

theorem proved : Rows.ProgApartUptoSaid :=
 OpenClaim.holds_of_cond 4 Try.f4 rfl rfl rfl rfl rfl rfl rfl ⟨rfl, rfl, rfl, rfl, rfl⟩ rfl rfl rfl rfl rfl (by kernel_rfl) Try.func4 (by kernel_rfl)
  (of_decide_eq_true (by kernel_rfl)) (by unfold Func.isWrapper; rw [if_neg (by decide +kernel)]; exact ⟨rfl, rfl⟩)
  (fun os started H enc _ F => lifted os started H enc F)
end Go.Proofs.Ytbdilgkfnacahaa.progApart
#print axioms Go.Proofs.Ytbdilgkfnacahaa.progApart.proved
