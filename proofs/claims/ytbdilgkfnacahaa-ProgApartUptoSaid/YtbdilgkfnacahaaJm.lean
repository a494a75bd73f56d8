/-
 Programs: copied, held against each other.
-/
import Derived.Test.YtbdilgkfnacahaaJl
namespace Go.Proofs.Ytbdilgkfnacahaa
open Go.V Go
set_option maxRecDepth 100000
set_option maxHeartbeats 4000000
set_option linter.unusedSimpArgs false
set_option linter.unusedVariables false

/-- what a frame holds at a slot -/
def ixF_Jm (fr : Go.V.Fr) (k : Nat) : Go.V.D := Go.V.nth .junk fr.loc k

/-- an instruction in new memory, as it is told -/
def copyI (i : PIns) : PIns := ⟨i.op, i.x, i.y, .sl ((i.rs.map rangeC).map (elD 2)), i.rs⟩
theorem copyI_ok {i : PIns} (h : i.ok) : (copyI i).ok := ⟨SlD.frozen (range_len _) (range_plain _), h.2⟩

def copyC (q : PIns) : List D := insC (copyI q)
theorem bs_range_len (l : List Rg) : (l.map rangeC).length = l.length := by simp

theorem copyProg_ev {s0 : St} {p : Pg} (hp : p.ok) : ∃ d, Ev pv 24 [p.d] s0 d s0 ∧ ∃ q : Pg, d = q.d ∧ q.ok ∧ q.code = p.code.map copyI ∧ q.starts = p.starts := by
 refine Ev.mkR rfl fi24 rfl rfl rfl ?_
 dsimp only [List.cons_append, List.nil_append, List.length, Nat.reduceSub, Nat.reduceAdd, List.replicate_succ, List.replicate_zero]
 have hSb : (enterSt .ro s0).bs = s0.bs := rfl
 have hF : (enterSt .ro s0).flr ≤ s0.bs.length := Nat.le_refl _
 have hH : Has s0.bs.length (enterSt .ro s0) (enterSt .ro s0) [] := Has.start (Nat.le_refl _) (Nat.le_refl _)
 generalize enterSt .ro s0 = S at *
 have hc := hp.c.arg s0.bs.length S
 have hs := hp.s.arg s0.bs.length S
 have hlen := hp.cl
 have hsl0 := hp.sl
 unfold Pg.d
 try refine qy ?_
 repeat refine qq ?_
 try generalize hK : SeqQ _ _ _ _ = K
 refine EvC.reg ?_
 refine qb hH fun k1 st hk1 hH => ?_
 try dsimp only [u2, u1, u3, u4, setMany, u5, u6, D.cells, Nat.reduceAdd, Pg.cs, insC, intC] at hH
 refine qa hH fun k2 st hk2 hH => ?_
 try dsimp only [u2, u1, u3, u4, setMany, u5, u6, D.cells, Nat.reduceAdd, Pg.cs, insC, intC] at hH
 refine EvO.nil ?_
 try subst hK
 try refine qy ?_
 repeat refine qq ?_
 try generalize hK : SeqQ _ _ _ _ = K
 refine EvC.reg ?_
 refine EvO.hlist0 (s := 1) hH rfl rfl rfl rfl rfl (fun _ => (put_T rfl _)) (fun k6 st hk6 hH => ?_)
 try dsimp only [u2, u1, u3, u4, setMany, u5, u6, D.cells, Nat.reduceAdd, Pg.cs, insC, intC] at hH
 refine qp (o := 1) ?_
 refine ql hH at2 ?_
 refine qP hH at0 (Arg.rows (by assumption) hH) fun x9 st hH => ?_
 try dsimp only [u2, u1, u3, u4, setMany, u5, u6, D.cells, Nat.reduceAdd, Pg.cs, insC, intC] at hH
 refine EvO.ones (qs := [(1, _)]) rfl rfl rfl rfl ⟨rfl, (ev rfl), (by exact hH.ocells (by exact at0)), trivial⟩ (by intro q hq; simp only [List.mem_cons, List.not_mem_nil, or_false] at hq; rcases hq with rfl <;> exact ⟨rfl, by exact Nat.le_of_ble_eq_true rfl⟩) (by show List.foldl _ [_, _] _ = _; dsimp only [List.foldl_cons, List.foldl_nil, List.set_cons_zero, List.set_cons_succ] <;> rfl) (put_T rfl _) ?_
 refine qa hH fun k3 st hk3 hH => ?_
 try dsimp only [u2, u1, u3, u4, setMany, u5, u6, D.cells, Nat.reduceAdd, Pg.cs, insC, intC] at hH
 refine qS hH at0 fun st hH => ?_
 try dsimp only [u2, u1, u3, u4, setMany, u5, u6, D.cells, Nat.reduceAdd, Pg.cs, insC, intC] at hH
 refine EvO.nil ?_
 try subst hK
 try refine qy ?_
 have hH := hH.nulD 4
 try refine qy ?_
 repeat refine qq ?_
 try generalize hK : SeqQ _ _ _ _ = K
 refine EvC.reg ?_
 refine qm ?_
 refine EvO.nil ?_
 try subst hK
 try refine qy ?_
 repeat refine qq ?_
 refine EvC.block ?_
 refine EvC.loop (fun mm fr st => ∃ (i : Nat) (y : D) (ks : Nat → Prop), fr.clean = ⟨6, [ixF_Jm fr 0, .ptr k1 0 0, .ptr k2 0 0, .ptr k3 0 0, .int .i64 (i : Nat), ixF_Jm fr 5], []⟩ ∧ Has s0.bs.length S st [.deep ks y 4 ((p.code.take i).map copyC), .box k3 (.mem 0 false [y, x9]), .lst x9 1 (p.starts.map intC), .box k2 (.mem 0 false [.nul, .nul]), .box k1 (.mem 0 false [p.cd, p.sd])] ∧ (i + mm = p.code.length)) (p.code.length) ?_ ?_
 ·exact ⟨0, .nul, _, rfl, hH, by omega⟩
 rintro mm fr st ⟨i, y, ks, hfr, hH, hi⟩
 rw [hfr]
 clear hfr
 try generalize ixF_Jm fr = ee
 clear fr
 try refine qy ?_
 repeat refine qq ?_
 try generalize hK : SeqQ _ _ _ _ = K
 refine EvC.reg ?_
 refine qm ?_
 refine qp (o := 0) ?_
 refine ql hH at4 ?_
 refine qn ?_
 try simp only [List.length_map, List.length_append, List.length_cons, List.length_nil, List.length_set, List.length_replicate, List.length_reverse]
 refine qg ?_
 refine EvO.nil ?_
 try subst hK
 try refine qy ?_
 repeat refine qq ?_
 refine qc (fun h1 => ?_) (fun h1 => ?_) <;> try simp only [cs] at h1
 ·refine EvC.skip ?_
  try refine qy ?_
  obtain ⟨q, hq⟩ : ∃ q, p.code[i]? = some q := ⟨p.code[i]'(by omega), List.getElem?_eq_getElem _⟩
  have hr := ins_get hq
  have hqo := hp.i q (List.mem_of_getElem? hq)
  have hrd := hqo.1
  have hra := hqo.1.arg s0.bs.length S
  have hrl := hqo.2
  have htl : ((p.code.take i).map copyC).length ≤ 1048576 := by rw [List.length_map, List.length_take]; omega
  try refine qy ?_
  repeat refine qq ?_
  refine EvC.block ?_
  try refine qy ?_
  repeat refine qq ?_
  try generalize hK : SeqQ _ _ _ _ = K
  refine EvC.reg ?_
  refine qp (o := 0) ?_
  refine ql hH at4 ?_
  refine qm ?_
  refine qr fun p21 hp21 => ?_
  refine EvO.rloadS rfl (ev rfl) (by assumption) rfl (put_T rfl _) ?_
  refine qa hH fun k5 st hk5 hH => ?_
  try dsimp only [u2, u1, u3, u4, setMany, u5, u6, D.cells, Nat.reduceAdd, Pg.cs, insC, intC] at hH
  refine qS hH at0 fun st hH => ?_
  try dsimp only [u2, u1, u3, u4, setMany, u5, u6, D.cells, Nat.reduceAdd, Pg.cs, insC, intC] at hH
  refine EvO.nil ?_
  try subst hK
  try refine qy ?_
  repeat refine qq ?_
  try generalize hK : SeqQ _ _ _ _ = K
  refine EvC.reg ?_
  refine EvO.hlist0 (s := 2) hH rfl rfl rfl rfl rfl (fun _ => (put_T rfl _)) (fun k23 st hk23 hH => ?_)
  try dsimp only [u2, u1, u3, u4, setMany, u5, u6, D.cells, Nat.reduceAdd, Pg.cs, insC, intC] at hH
  refine qp (o := 0) ?_
  refine ql hH at6 ?_
  refine qm ?_
  refine qr fun p27 hp27 => ?_
  refine qf (fo := 3) fun p28 hp28 => ?_
  refine qR ?_
  refine qP hH at0 (Arg.rows (by assumption) hH) fun x30 st hH => ?_
  try dsimp only [u2, u1, u3, u4, setMany, u5, u6, D.cells, Nat.reduceAdd, Pg.cs, insC, intC] at hH
  refine qp (o := 3) ?_
  refine qT hH at1 (fun st hH => ?_) (hcs := hH.ocells at0)
  try dsimp only [u2, u1, u3, u4, setMany, u5, u6, D.cells, Nat.reduceAdd, Pg.cs, insC, intC] at hH
  refine EvO.nil ?_
  try subst hK
  try refine qy ?_
  repeat refine qq ?_
  try generalize hK : SeqQ _ _ _ _ = K
  refine EvC.reg ?_
  refine qp (o := 0) ?_
  refine ql hH at3 ?_
  refine EvO.hloadS (m := 4) hH rfl (ev rfl) (by exact at1) (by dsimp only [List.drop_succ_cons, List.drop_zero, List.take_succ_cons, List.take_zero, Pg.cs, insC, intC] <;> rfl) rfl rfl (put_T rfl _) ?_
  refine qh (s := 4) (vs := [_]) hH fun k35 st hk35 hH => ?_
  try dsimp only [u2, u1, u3, u4, setMany, u5, u6, D.cells, Nat.reduceAdd, Pg.cs, insC, intC] at hH
  obtain ⟨hH, hdc⟩ := hH.absorb (i := 1) (j := 3) (by decide) at1 at3 (range_plain _)
  dsimp only [List.set_cons_succ, List.set_cons_zero] at hH
  refine EvO.dappend hH rfl rfl rfl at3 (hH.rows at0) (.cons (.cons (.plain _ rfl) (.cons (.plain _ rfl) (.cons (.plain _ rfl) (.cons hdc .nil)))) .nil) rfl rfl rfl rfl rfl rfl rfl ⟨(Nat.le_of_ble_eq_true rfl), (Nat.le_of_ble_eq_true rfl)⟩ (fun _ => (put_T rfl _)) (by show _ + 1 ≤ _; omega) (.inl hF) (fun x36 st hH => ?_)
  dsimp only [List.set_cons_succ, List.set_cons_zero] at hH
  refine qp (o := 0) ?_
  refine EvO.hstore hH rfl (ev rfl) (ev rfl) (by exact hH.dcells (by exact at3)) (by exact rfl) (by exact at4) (by exact Nat.le_of_ble_eq_true rfl) (by exact .inl hF) (fun st hH => ?_)
  try dsimp only [u2, u1, u3, u4, setMany, u5, u6, D.cells, Nat.reduceAdd, Pg.cs, insC, intC] at hH
  refine EvO.nil ?_
  try subst hK
  try refine qy ?_
  repeat refine qq ?_
  try generalize hK : SeqQ _ _ _ _ = K
  refine EvC.reg ?_
  refine qm ?_
  refine qA ?_
  refine qm ?_
  refine EvO.nil ?_
  try subst hK
  try refine qy ?_
  exact ⟨mm - 1, by omega, ⟨i + 1, x36, _, rfl, (by rw [List.take_add_one, hq, Option.toList_some, List.map_append]; exact hH.drop 3), by omega⟩⟩
 ·try refine qy ?_
  refine EvC.exit ?_
  try refine qy ?_
  repeat refine qq ?_
  try generalize hK : SeqQ _ _ _ _ = K
  refine EvC.reg ?_
  refine EvO.hloadS (m := 2) hH rfl (ev rfl) (by exact at1) (by dsimp only [List.drop_succ_cons, List.drop_zero, List.take_succ_cons, List.take_zero, Pg.cs, insC, intC] <;> rfl) rfl rfl (put_T rfl _) ?_
  refine qS hH at3 fun st hH => ?_
  try dsimp only [u2, u1, u3, u4, setMany, u5, u6, D.cells, Nat.reduceAdd, Pg.cs, insC, intC] at hH
  refine EvO.nil ?_
  try subst hK
  try refine qy ?_
  rw [List.take_of_length_le (by omega)] at hH
  have h1 := hH.freezeDp at0 (n := 14) (by decide)
  have h2 := hH.freezeL at2 (int_plain _) (n := 15) (by decide)
  have h3 : freezeD st s0.bs.length false 16 (.agg [y, x9]) = some (.agg [.sl ((p.code.map copyC).map (elD 4)), .sl ((p.starts.map intC).map (elD 1))]) := by
   show (mapO (freezeD st s0.bs.length false 15) [y, x9]).map D.agg = _
   simp only [mapO, h1, h2, Option.map_some]
  refine EvC.ret ⟨fun i h => (by cases h), _, _, hH.resCell rfl at3 rfl, leave_ro (by simp) hSb hH h3, ⟨_, p.code.map copyI, intsV p.starts, p.starts⟩, rfl, ⟨?_, intsV_sl _, ?_, by simpa using hlen, hsl0⟩, rfl, rfl⟩
  ·have h0 : (p.code.map copyI).map insC = p.code.map copyC := by rw [List.map_map]; rfl
   show SlD _ 4 ((p.code.map copyI).map insC)
   rw [h0]
   have h4 : ∀ e ∈ (p.code.map copyC), e.length = 4 := by
    intro e he; obtain ⟨q, _, rfl⟩ := List.mem_map.1 he; rfl
   have := SlD.frozen (s := 4) (es := p.code.map copyC) h4 (by
    intro e he d hd; obtain ⟨q, _, rfl⟩ := List.mem_map.1 he
    simp only [copyC, insC, copyI, List.mem_cons, List.not_mem_nil, or_false] at hd
    rcases hd with rfl | rfl | rfl | rfl <;> rfl)
   exact this
  ·intro i hi
   obtain ⟨q, hq, rfl⟩ := List.mem_map.1 hi
   exact copyI_ok (hp.i q hq)
end Go.Proofs.Ytbdilgkfnacahaa
