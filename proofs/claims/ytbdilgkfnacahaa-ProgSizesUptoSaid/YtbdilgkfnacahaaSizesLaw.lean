/- ProgSizes, for arguments of bulk at most 1048576: it answers true. -/
import Derived.Test.YtbdilgkfnacahaaAn
import Derived.Test.YtbdilgkfnacahaaQk
import Derived.Test.YtbdilgkfnacahaaRows
import Derived.WalkKit
import Derived.ProofKit
import Derived.OpenShut
import Derived.JoinedCond
import Derived.ChangeOld
namespace Go.Proofs.Ytbdilgkfnacahaa.progSizes
open Go.ChangeShapes Go.WideShapes Go.ChangeAt Go.RowKit Go.V
set_option maxRecDepth 100000
set_option maxHeartbeats 4000000
set_option linter.unusedSimpArgs false
set_option linter.unusedVariables false

theorem law {s0 : St} (x : Nl) (hx : x.ok) : Ev pv 5 [x.d] s0 (.bool true) s0 := by
 refine Ev.mk1 rfl fi5 rfl rfl rfl ?_
 dsimp only [List.cons_append, List.nil_append, List.length, Nat.reduceSub, Nat.reduceAdd, List.replicate_succ, List.replicate_zero]
 have hSb : (enterSt .ro s0).bs = s0.bs := rfl
 have hF : (enterSt .ro s0).flr ≤ s0.bs.length := Nat.le_refl _
 have hH : Has s0.bs.length (enterSt .ro s0) (enterSt .ro s0) [] := Has.start (Nat.le_refl _) (Nat.le_refl _)
 generalize enterSt .ro s0 = S at *
 have hcc := hx.c.cells
 have hrs : ∀ l ∈ [x.l], ∀ n ∈ l, n.rs.length ≤ 1048576 := fun l hl n hn => by
  simp only [List.mem_cons, List.not_mem_nil, or_false] at hl
  subst hl; exact (hx.i n hn).2.1
 obtain ⟨hpk, hpl⟩ := compileS_ok hrs
 have hcomp : ∀ (st : St) (y : D), V.Rows st 1 y [[x.d]] → Ev pv 14 [y] st (compD (compileS [x.l])) st := fun st y hy => compile_ev (rules := [x]) hy (fun r hr => by
  simp only [List.mem_cons, List.not_mem_nil, or_false] at hr
  subst hr; exact hx) (by simp)
 have hrt := fun st => rightL_ev (s0 := st) hx
 obtain ⟨R, hR⟩ : ∃ R, compileS [x.l] = R := ⟨_, rfl⟩
 rw [hR] at hpk hpl hcomp
 have hcd := hpk.c.arg s0.bs.length S
 try refine qy ?_
 repeat refine qq ?_
 try generalize hK : SeqQ _ _ _ _ = K
 refine EvC.reg ?_
 refine qm ?_
 refine EvO.nil ?_
 try subst hK
 try refine qy ?_
 repeat refine qq ?_
 try generalize hK : SeqQ _ _ _ _ = K
 refine EvC.reg ?_
 refine qm ?_
 refine EvO.hlist (s := 1) (vs := [x.d]) hH rfl rfl rfl rfl rfl (Nat.le_of_ble_eq_true rfl) ⟨rfl, (ev rfl), trivial⟩ rfl (by intro v hv; simp only [List.mem_cons, List.not_mem_nil, or_false] at hv; subst hv; exact ⟨by rw [hcc.1, hcc.2], by rw [hcc.2]; rfl⟩) (fun _ => (put_T rfl _)) (fun k10 st hk10 hH => ?_)
 rw [List.map_cons, List.map_nil, hcc.2] at hH
 refine EvO.hcall rfl rfl ((hcomp _ _ (hH.rows at0))) (put_T rfl _) ?_
 refine qm ?_
 refine qg ?_
 refine qg ?_
 refine qg ?_
 refine qa hH fun k3 st hk3 hH => ?_
 try dsimp only [u2, u1, u3, u4, setMany, u5, u6, D.cells, Nat.reduceAdd, compD, Pg.d, pgV] at hH
 refine qS hH at0 fun st hH => ?_
 try dsimp only [u2, u1, u3, u4, setMany, u5, u6, D.cells, Nat.reduceAdd, compD, Pg.d, pgV] at hH
 refine qm ?_
 refine qm ?_
 refine EvO.nil ?_
 try subst hK
 try refine qy ?_
 have hR2 : R = if rightN x.l = false then ⟨[], [], 1, 0⟩ else if 400 < min (treeN x.l).sz 401 + 3 then ⟨[], [], 12, 0⟩ else ⟨ruleC (treeN x.l) 0 0, [0], 0, 0⟩ := by
  rw [← hR]
  unfold compileS
  rw [if_neg (by simp), compS]
  simp only [compS_nil, List.length_nil, List.nil_append, Nat.zero_add]
  rfl
 have hg2 : ((1 : Int) == 1) = true := by decide
 clear hR
 cases hright : rightN x.l with
 | false =>
  rw [if_pos hright] at hR2
  subst hR2
  simp only [hright] at hrt
  try refine qy ?_
  repeat refine qq ?_
  try generalize hK : SeqQ _ _ _ _ = K
  refine EvC.reg ?_
  refine qm ?_
  refine EvO.hcall rfl rfl ((hrt _)) (put_T rfl _) ?_
  refine qg ?_
  refine EvO.nil ?_
  try subst hK
  try refine qy ?_
  repeat refine qq ?_
  refine EvC.cond (v := true) (by rfl) (fun _ => ?_) (fun h => by cases h)
  try refine qy ?_
  repeat refine qq ?_
  try generalize hK : SeqQ _ _ _ _ = K
  refine EvC.reg ?_
  refine qm ?_
  refine qg ?_
  refine qm ?_
  refine EvO.hcall (wantD_is rfl rfl rfl hg2) rfl (Ev.prim rfl rfl) (put_T rfl _) ?_
  refine qt hg2 ?_
  refine qm ?_
  refine EvO.nil ?_
  try subst hK
  try refine qy ?_
  refine EvC.ret ⟨fun i h => (by cases h), _, rfl, leave_ro (by simp) hSb hH (rfl)⟩
 | true =>
  rw [if_neg (by rw [hright]; simp)] at hR2
  obtain ⟨htok, htf⟩ := tree_is hright
  simp only [hright] at hrt
  try refine qy ?_
  repeat refine qq ?_
  try generalize hK : SeqQ _ _ _ _ = K
  refine EvC.reg ?_
  refine qm ?_
  refine EvO.hcall rfl rfl ((hrt _)) (put_T rfl _) ?_
  refine qg ?_
  refine EvO.nil ?_
  try subst hK
  try refine qy ?_
  repeat refine qq ?_
  refine EvC.cond (v := false) (by rfl) (fun h => by cases h) (fun _ => ?_)
  try refine qy ?_
  refine EvC.skip ?_
  try refine qy ?_
  repeat refine qq ?_
  try generalize hK : SeqQ _ _ _ _ = K
  refine EvC.reg ?_
  refine qm ?_
  refine EvO.hcall rfl rfl ((sized_ev hx _ (treeN x.l) (Nat.le_refl _) htok (at_ := 0) (by rw [htf]; exact Seg.all _))) (put_T rfl _) ?_
  refine qm ?_
  refine qg ?_
  refine qg ?_
  refine qm ?_
  refine qm ?_
  refine EvO.nil ?_
  try subst hK
  try refine qy ?_
  repeat refine qq ?_
  try generalize hK : SeqQ _ _ _ _ = K
  refine EvC.reg ?_
  refine qm ?_
  refine EvO.addZ (z := ((min (treeN x.l).sz 1000 + 3 : Nat) : Int)) rfl (ev rfl) (ev rfl) (by (try simp only [List.length_reverse, List.length_cons, List.length_nil, List.length_append, List.length_map, List.length_set]); rw [wrap_i64 (by omega) (by omega)] <;> omega) (put_T rfl _) ?_
  refine qg ?_
  refine EvO.nil ?_
  try subst hK
  try refine qy ?_
  by_cases hbig : 400 < min (treeN x.l).sz 401 + 3
  ·rw [if_pos hbig] at hR2
   subst hR2
   have hcc : decide (((min (treeN x.l).sz 1000 + 3 : Nat) : Int) > 400) = true := by rw [decide_eq_true_eq]; omega
   try refine qy ?_
   repeat refine qq ?_
   refine EvC.cond (v := true) (by dsimp only [Fr.ev, Fr.get, nth, Go.V.look]; rw [hcc]) (fun _ => ?_) (fun h => by cases h)
   try refine qy ?_
   have hg2 : ((12 : Int) == 12) = true := by decide
   have hg8 : (((0 : Nat) : Int) == 0) = true := rfl
   try refine qy ?_
   repeat refine qq ?_
   try generalize hK : SeqQ _ _ _ _ = K
   refine EvC.reg ?_
   refine qm ?_
   refine qg ?_
   refine qm ?_
   refine qp (o := 0) ?_ (hg := wi hg2)
   refine ql hH at0 ?_ (hg := wi hg2)
   refine qn ?_ (hg := wi hg2)
   try simp only [List.length_map, List.length_append, List.length_cons, List.length_nil, List.length_set, List.length_replicate, List.length_reverse]
   refine qg ?_ (hg := wi hg2)
   refine qt hg2 ?_
   refine qm ?_
   refine EvO.hcall (wantD_is rfl rfl rfl hg8) rfl (Ev.prim rfl rfl) (put_T rfl _) ?_
   refine qt hg8 ?_
   refine qm ?_
   refine EvO.nil ?_
   try subst hK
   try refine qy ?_
   refine EvC.ret ⟨fun i h => (by cases h), _, rfl, leave_ro (by simp) hSb hH (rfl)⟩
  ·rw [if_neg hbig] at hR2
   subst hR2
   have hcc : decide (((min (treeN x.l).sz 1000 + 3 : Nat) : Int) > 400) = false := by rw [decide_eq_false_iff_not]; omega
   have hrl := ruleC_len (b := 0) (r := 0) htok
   try refine qy ?_
   repeat refine qq ?_
   refine EvC.cond (v := false) (by dsimp only [Fr.ev, Fr.get, nth, Go.V.look]; rw [hcc]) (fun h => by cases h) (fun _ => ?_)
   try refine qy ?_
   refine EvC.skip ?_
   try refine qy ?_
   have hg2 : ((0 : Int) == 0) = true := by decide
   have hg10 : ((((ruleC (treeN x.l) 0 0).length : Nat) : Int) == ((min (treeN x.l).sz 1000 + 3 : Nat) : Int)) = true := by rw [beq_iff_eq, hrl]; omega
   try refine qy ?_
   repeat refine qq ?_
   try generalize hK : SeqQ _ _ _ _ = K
   refine EvC.reg ?_
   refine qm ?_
   refine qg ?_
   refine qm ?_
   refine qp (o := 0) ?_ (hg := wi hg2)
   refine ql hH at0 ?_ (hg := wi hg2)
   refine qn ?_ (hg := wi hg2)
   try simp only [List.length_map, List.length_append, List.length_cons, List.length_nil, List.length_set, List.length_replicate, List.length_reverse]
   refine qm ?_ (hg := wi hg2)
   refine EvO.addZ (z := ((min (treeN x.l).sz 1000 + 3 : Nat) : Int)) (wantD_is rfl rfl rfl hg2) (ev rfl) (ev rfl) (by (try simp only [List.length_reverse, List.length_cons, List.length_nil, List.length_append, List.length_map, List.length_set]); rw [wrap_i64 (by omega) (by omega)] <;> omega) (put_T rfl _) ?_
   refine qg ?_ (hg := wi hg2)
   refine qt hg2 ?_
   refine qm ?_
   refine EvO.hcall (wantD_is rfl rfl rfl hg10) rfl (Ev.prim rfl rfl) (put_T rfl _) ?_
   refine qt hg10 ?_
   refine qm ?_
   refine EvO.nil ?_
   try subst hK
   try refine qy ?_
   refine EvC.ret ⟨fun i h => (by cases h), _, rfl, leave_ro (by simp) hSb hH (rfl)⟩

theorem own : ownKnob Try.prog.godebug = none := by kernel_rfl
theorem laidOut : laidOutB Try.prog = true := by kernel_rfl

theorem lifted (os : Os) (started : os.Started) (H : Type) (enc : TypeId × Value → H) (F : Stop.Interp) :
  ReturnsInHanded {} Try.checked os 5 .any ((Rows.OpenSpec.upto Rows.progSizesSpec).pre6 enc Try.prog Try.f5 Rows.progSizesUptoRow.domain false) (((Rows.OpenSpec.upto Rows.progSizesSpec).at F).post enc Try.prog Try.f5 false true false false) := by
 refine returnsInHanded_of_cond (C := Try.checked) (s := Rows.OpenSpec.upto Rows.progSizesSpec) (k := Rows.uptoSmall) rfl own started (by kernel_rfl) Try.func5
  (OpenSpec.witness (enc := enc) (C := Try.checked) (s := Rows.OpenSpec.upto Rows.progSizesSpec) (k := Rows.uptoSmall) rfl false ⟨#[], #[.slice none 0 0], []⟩ 8 (by kernel_rfl) (by kernel_rfl) (by kernel_rfl)
   (x := ([.nil], [], [])) (by kernel_rfl) rfl (by kernel_rfl)) ?_
 intro W base args ds gs before hval hW _ hk _
 have hW' := hW
 obtain ⟨p, q, hA0, hV, rfl, hfz, hnd⟩ := hW
 have hA : DataW.TrodAll enc Try.prog W 0 (fun _ => true) true Try.f5.params.toList args.toList ds p := hA0
 rw [Try.params5] at hA hval
 obtain ⟨v0, vs0, d0, ds0, p0, q0, hargs, rfl, rfl, h0, r0⟩ := trodAll_cons hA
 obtain ⟨rfl, rfl, rfl⟩ := trodAll_nil r0
 obtain rfl : args = #[v0] := by cases args; simp_all
 obtain ⟨rfl, rfl⟩ := trodVars_none hV
 simp only [Rows.uptoSmall, List.append_nil, List.nil_append, List.singleton_append, List.cons_append, decide_eq_true_eq, Rows.uptoBulkAll] at hk
 have i0 := trod_ir h0 (n := 12) (by kernel_rfl) (hval 0 24 v0 rfl rfl)
 have k0 := h0
 have lt0 : ∀ x ∈ p0, x.block < W.heap.size := by obtain ⟨m, hm⟩ := k0; exact DataW.trod_lt m _ _ _ hm
 obtain ⟨b0, hb0, ok0⟩ := arg_nodes (Rd.of h0)
 have hlaw : Ev pv 5 [dval d0] ⟨[], 0, 0⟩ (.bool true) ⟨[], 0, 0⟩ := by
  rw [hb0]
  exact law b0 (ok0 (by omega))
 have hir : ∀ (i : Nat) c v, [dval d0][i]? = some c → [v0][i]? = some v → IR W (fun b => b < W.heap.size) c v := by
  intro i c v hc hv
  match i, hc, hv with
  | 0, hc, hv => cases hc; cases hv; exact i0
 clear hA0
 refine (law_calls view hlaw (us := [v0]) rfl hir).mono fun e W' ⟨he, bel⟩ => ?_
 subst he
 exact ⟨_, rfl, _, _, _, [], _, [], hW', trodAll_mk1 (shut_bool Try.underlying4 _), (trodAll_cons_mk (Below.trod laidOut (by kernel_rfl) (of_decide_eq_true (by kernel_rfl)) k0 bel lt0) trodAll_mk0), rfl, bel.frame _, fun h => by cases h⟩

theorem proved : Rows.ProgSizesUptoSaid :=
 OpenClaim.holds_of_cond 5 Try.f5 rfl rfl rfl rfl rfl rfl rfl ⟨rfl, rfl, rfl, rfl, rfl⟩ rfl rfl rfl rfl rfl (by kernel_rfl) Try.func5 (by kernel_rfl)
  (of_decide_eq_true (by kernel_rfl)) (by unfold Func.isWrapper; rw [if_neg (by decide +kernel)]; exact ⟨rfl, rfl⟩)
  (fun os started H enc _ F => lifted os started H enc F)
end Go.Proofs.Ytbdilgkfnacahaa.progSizes
#print axioms Go.Proofs.Ytbdilgkfnacahaa.progSizes.proved
