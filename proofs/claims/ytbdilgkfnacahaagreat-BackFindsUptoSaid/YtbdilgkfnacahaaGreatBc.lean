/-
 The program's search: from every place.
-/
import Derived.Test.YtbdilgkfnacahaaGreatBb
import Derived.Test.YtbdilgkfnacahaaGreatJj
namespace Go.Proofs.YtbdilgkfnacahaaGreat
open Go.V Go
set_option maxRecDepth 100000
set_option maxHeartbeats 4000000
set_option linter.unusedSimpArgs false
set_option linter.unusedVariables false

/-- what a frame holds at a slot -/
def ixF_Bc (fr : Go.V.Fr) (k : Nat) : Go.V.D := Go.V.nth .junk fr.loc k

theorem allS_len : ∀ (n : Nat) (b : List UInt8), b.length ≤ n → (allS b).length ≤ b.length ∧ ∀ g ∈ allS b, g.2 ≤ b.length := by
 intro n
 induction n with
 | zero =>
  intro b hb
  have : b = [] := List.length_eq_zero_iff.1 (by omega)
  subst this
  rw [allS_nil]; exact ⟨Nat.le_refl _, fun g hg => by cases hg⟩
 | succ n ih =>
  intro b hb
  by_cases h : b = []
  ·subst h; rw [allS_nil]; exact ⟨Nat.le_refl _, fun g hg => by cases hg⟩
  ·have hp := oneS_pos b
   have hl := oneS_le h
   obtain ⟨h1, h2⟩ := ih (b.drop (oneS b).2) (by rw [List.length_drop]; omega)
   rw [List.length_drop] at h1 h2
   rw [allS_cons h]
   refine ⟨by rw [List.length_cons]; omega, fun g hg => ?_⟩
   rcases List.mem_cons.1 hg with rfl | hg
   ·exact hl
   ·have := h2 g hg; omega

/-- the places: of every rune, and the end -/
def plS : Int → List (Nat × Nat) → List Int
 | a, [] => [a]
 | a, g :: r => a :: plS (a + (g.2 : Nat)) r
theorem plS_len : ∀ (l : List (Nat × Nat)) (a : Int), (plS a l).length = l.length + 1
 | [], _ => rfl
 | g :: r, a => by simp only [plS, List.length_cons, plS_len r]

/-- from every place; what was seen is kept -/
def findP (idx : Nat → Nat → Nat) (stp : Tr3 → Res) (fuel start : Nat) : Nat → Nat → List Bool → Option Cps
 | 0, _, _ => none
 | m + 1, i, arr => match (dfsF idx stp fuel arr [⟨start, i, noCaps⟩]).1 with
  | some c => some c
  | none => findP idx stp fuel start m (i + 1) (dfsF idx stp fuel arr [⟨start, i, noCaps⟩]).2

noncomputable def progFind (p : Pg) (rule : Int) (b : List UInt8) : Option Cps :=
 if dec (RightQ p) = true ∧ 0 ≤ rule ∧ rule < (p.starts.length : Int) then
  findP (idxP p.code.length) (stepS p.code (allS b) (plS 0 (allS b))) (3 * (((allS b).length + 1) * p.code.length) + 1) (p.starts.getD rule.toNat 0).toNat ((allS b).length + 1) 0 (List.replicate (((allS b).length + 1) * p.code.length) false)
 else none

theorem dfsF_len (idx : Nat → Nat → Nat) (stp : Tr3 → Res) : ∀ (f : Nat) (arr : List Bool) (stk : List Tr3), (dfsF idx stp f arr stk).2.length = arr.length
 | 0, arr, _ => by simp [dfsF]
 | f + 1, arr, [] => by simp [dfsF]
 | f + 1, arr, t :: stk => by
  unfold dfsF
  split
  ·split
   ·simp
   ·rw [dfsF_len idx stp f, List.length_set]
  ·exact dfsF_len idx stp f arr stk

theorem find3_ev {s0 : St} {p : Pg} {b : List UInt8} (hp : p.ok) (rule : Int) (hbl : b.length ≤ 1048576) (hsz : ((allS b).length + 1) * p.code.length ≤ 134217728) :
  Ev pv 9 [p.d, .int .i64 rule, .str b] s0 (outC (progFind p rule b)) s0 := by
 obtain ⟨hgl, hgs⟩ := allS_len _ b (Nat.le_refl _)
 have hev : ∀ (st : St) (x : D), Bytes st x b → Ev pv 24 [x] st (gotsD (allS b)) st := fun st x h => all_ev h hbl
 unfold progFind
 generalize allS b = gs at *
 refine Ev.mk1 rfl fi9 rfl rfl rfl ?_
 dsimp only [List.cons_append, List.nil_append, List.length, Nat.reduceSub, Nat.reduceAdd, List.replicate_succ, List.replicate_zero]
 have hSb : (enterSt .ro s0).bs = s0.bs := rfl
 have hF : (enterSt .ro s0).flr ≤ s0.bs.length := Nat.le_refl _
 have hH : Has s0.bs.length (enterSt .ro s0) (enterSt .ro s0) [] := Has.start (Nat.le_refl _) (Nat.le_refl _)
 generalize enterSt .ro s0 = S at *
 have hc := hp.c.arg s0.bs.length S
 have hs := hp.s.arg s0.bs.length S
 have hlen := hp.cl
 have hsl := hp.sl
 unfold Pg.d
 try refine qy ?_
 repeat refine qq ?_
 try generalize hK : SeqQ _ _ _ _ = K
 refine EvC.reg ?_
 refine qb hH fun k3 st hk3 hH => ?_
 try dsimp only [u2, u1, u3, u4, setMany, u5, u6, D.cells, Nat.reduceAdd, insC, intC, boolC, tryC, capsC, noCaps, zeroCaps] at hH
 refine qa hH fun k6 st hk6 hH => ?_
 try dsimp only [u2, u1, u3, u4, setMany, u5, u6, D.cells, Nat.reduceAdd, insC, intC, boolC, tryC, capsC, noCaps, zeroCaps] at hH
 refine qm ?_
 refine EvO.nil ?_
 try subst hK
 try refine qy ?_
 repeat refine qq ?_
 refine EvC.cutL 28 (.bool ((!dec (RightQ p) || decide (rule < 0)) || decide (rule ≥ p.starts.length))) [15, 16, 17, 18, 19, 20, 21, 22, 23, 24, 25, 26, 27] ?_ (fun ff tmp => ?_)
 ·refine EvO.hloadS (m := 2) hH rfl (ev rfl) (by exact at1) (by dsimp only [List.drop_succ_cons, List.drop_zero, List.take_succ_cons, List.take_zero, insC, intC, boolC, tryC, capsC, noCaps, zeroCaps] <;> rfl) rfl rfl (by dsimp only [Fr.put, List.set_cons_succ, List.set_cons_zero] <;> rfl) ?_
  refine EvO.hcall rfl rfl (checkRight_ev (p := p) hp) (by dsimp only [Fr.put, List.set_cons_succ, List.set_cons_zero] <;> rfl) ?_
  refine qg ?_
  refine qm ?_
  refine EvO.two 18 rfl (fun hg3 => ?_) (fun hg3 => ?_)
  ·refine qs ?_ (hg := wn hg3)
   refine qs ?_ (hg := wn hg3)
   refine qt hg3 ?_
   refine qm ?_
   refine qs ?_
   refine qs ?_
   refine qs ?_
   refine qs ?_
   refine qs ?_
   refine qg ?_
   refine EvO.nil (leafL ?_)
   try dsimp only [setW, List.foldl, nth, u2, u1]
   try dsimp only [Fr.putO, Fr.put, Fr.clean, Fr.ev, Fr.get, nth, Go.V.look, u1, u2, v1, v2, v3, v4, v5, v6, v7, List.length, u3, u4, Nat.reduceSub, Nat.reduceAdd, List.map]
   all_goals (simp [hg3]; done)
  ·refine qm ?_ (hg := wi hg3)
   refine qg ?_ (hg := wi hg3)
   refine qu hg3 ?_
   refine qm ?_
   refine EvO.two 22 rfl (fun hg7 => ?_) (fun hg7 => ?_)
   ·refine qs ?_ (hg := wn hg7)
    refine qs ?_ (hg := wn hg7)
    refine qs ?_ (hg := wn hg7)
    refine qs ?_ (hg := wn hg7)
    refine qs ?_ (hg := wn hg7)
    refine qt hg7 ?_
    refine EvO.nil (leafL ?_)
    try dsimp only [setW, List.foldl, nth, u2, u1]
    try dsimp only [Fr.putO, Fr.put, Fr.clean, Fr.ev, Fr.get, nth, Go.V.look, u1, u2, v1, v2, v3, v4, v5, v6, v7, List.length, u3, u4, Nat.reduceSub, Nat.reduceAdd, List.map]
    all_goals (simp [hg3, hg7]; done)
   ·refine qm ?_ (hg := wi hg7)
    refine qp (o := 1) ?_ (hg := wi hg7)
    refine ql hH at1 ?_ (hg := wi hg7)
    refine qn ?_ (hg := wi hg7)
    try simp only [List.length_map, List.length_append, List.length_cons, List.length_nil, List.length_set, List.length_replicate, List.length_reverse]
    refine qg ?_ (hg := wi hg7)
    refine qu hg7 ?_
    refine EvO.nil (leafL ?_)
    try dsimp only [setW, List.foldl, nth, u2, u1]
    try dsimp only [Fr.putO, Fr.put, Fr.clean, Fr.ev, Fr.get, nth, Go.V.look, u1, u2, v1, v2, v3, v4, v5, v6, v7, List.length, u3, u4, Nat.reduceSub, Nat.reduceAdd, List.map]
    all_goals (simp [hg3, hg7]; done)
 try dsimp only [setW, List.foldl, nth, u2, u1]
 generalize ff 15 = e15
 generalize ff 16 = e16
 generalize ff 17 = e17
 generalize ff 18 = e18
 generalize ff 19 = e19
 generalize ff 20 = e20
 generalize ff 21 = e21
 generalize ff 22 = e22
 generalize ff 23 = e23
 generalize ff 24 = e24
 generalize ff 25 = e25
 generalize ff 26 = e26
 generalize ff 27 = e27
 try dsimp only [Fr.putO, Fr.put, Fr.clean, Fr.ev, Fr.get, nth, Go.V.look, u1, u2, v1, v2, v3, v4, v5, v6, v7, List.length, u3, u4, Nat.reduceSub, Nat.reduceAdd, List.map]
 try refine qy ?_
 repeat refine qq ?_
 refine qc (fun h0 => ?_) (fun h0 => ?_) <;> try simp only [cs] at h0
 ·have hn : ¬ (dec (RightQ p) = true ∧ 0 ≤ rule ∧ rule < (p.starts.length : Int)) := by
   rintro ⟨h1, h2, h3⟩
   rw [h1] at h0
   simp at h0; omega
  rw [if_neg hn]
  try refine qy ?_
  repeat refine qq ?_
  try generalize hK : SeqQ _ _ _ _ = K
  refine EvC.reg ?_
  refine EvO.go (d := .agg (capsC zeroCaps)) (st1 := _) rfl rfl rfl (by dsimp only [Fr.put, List.set_cons_succ, List.set_cons_zero] <;> rfl) ?_
  refine qS hH at0 fun st hH => ?_
  try dsimp only [u2, u1, u3, u4, setMany, u5, u6, D.cells, Nat.reduceAdd, insC, intC, boolC, tryC, capsC, noCaps, zeroCaps] at hH
  refine qm ?_
  refine EvO.nil ?_
  try subst hK
  try refine qy ?_
  refine EvC.ret ⟨fun i h => (by cases h), _, hH.resCellT rfl at0 rfl rfl, leave_ro (by simp) hSb hH rfl⟩
 ·have h1 : RightQ p ∧ 0 ≤ rule ∧ rule < (p.starts.length : Int) := by
   simp only [Bool.or_eq_false_iff, Bool.not_eq_false', decide_eq_false_iff_not] at h0
   exact ⟨dec_true h0.1.1, by omega, by omega⟩
  obtain ⟨hR, hin0, hin1⟩ := h1
  rw [if_pos ⟨dec_yes hR, hin0, hin1⟩]
  obtain ⟨ru, rfl⟩ := Int.eq_ofNat_of_zero_le hin0
  obtain ⟨start, hs1⟩ : ∃ v, p.starts[ru]? = some v := ⟨p.starts[ru]'(by omega), List.getElem?_eq_getElem _⟩
  have hst := hR.st start (List.mem_of_getElem? hs1)
  obtain ⟨sn, rfl⟩ := Int.eq_ofNat_of_zero_le hst.1
  have hgd : (p.starts.getD ((ru : Nat) : Int).toNat 0).toNat = sn := by
   rw [Int.toNat_natCast, List.getD_eq_getElem?_getD, hs1]; rfl
  rw [hgd]
  have hr0 := int_get hs1
  have hgr : Arg s0.bs.length S 2 (gotsD gs) (gs.map gotC) := Arg.pure (fun st => gots_rows st gs)
  refine EvC.skip ?_
  try refine qy ?_
  repeat refine qq ?_
  try generalize hK : SeqQ _ _ _ _ = K
  refine EvC.reg ?_
  refine EvO.hloadS (m := 2) hH rfl (ev rfl) (by exact at1) (by dsimp only [List.drop_succ_cons, List.drop_zero, List.take_succ_cons, List.take_zero, insC, intC, boolC, tryC, capsC, noCaps, zeroCaps] <;> rfl) rfl rfl (by dsimp only [Fr.put, List.set_cons_succ, List.set_cons_zero] <;> rfl) ?_
  refine qm ?_
  refine EvO.hbytes hH rfl rfl rfl rfl rfl (by omega) (fun _ => by dsimp only [Fr.put, List.set_cons_succ, List.set_cons_zero] <;> rfl) (fun k32 st hk32 hH => ?_)
  refine EvO.hcall rfl rfl ((hev _ _ (hH.rows at0))) (by dsimp only [Fr.put, List.set_cons_succ, List.set_cons_zero] <;> rfl) ?_
  refine EvO.go (d := .agg [p.cd, p.sd, gotsD gs, .nul, .nul, .nul]) (st1 := _) rfl rfl rfl (by dsimp only [Fr.put, List.set_cons_succ, List.set_cons_zero] <;> rfl) ?_
  refine qb hH fun k35 st hk35 hH => ?_
  try dsimp only [u2, u1, u3, u4, setMany, u5, u6, D.cells, Nat.reduceAdd, insC, intC, boolC, tryC, capsC, noCaps, zeroCaps] at hH
  refine qm ?_
  refine EvO.nil ?_
  try subst hK
  try refine qy ?_
  repeat refine qq ?_
  try generalize hK : SeqQ _ _ _ _ = K
  refine EvC.reg ?_
  refine qm ?_
  refine EvO.nil ?_
  try subst hK
  try refine qy ?_
  repeat refine qq ?_
  try generalize hK : SeqQ _ _ _ _ = K
  refine EvC.reg ?_
  refine qm ?_
  refine qg ?_
  refine qp (o := 2) ?_
  refine ql hH at0 ?_
  refine qn ?_
  try simp only [List.length_map, List.length_append, List.length_cons, List.length_nil, List.length_set, List.length_replicate, List.length_reverse]
  refine qm ?_
  refine EvO.nil ?_
  try subst hK
  try refine qy ?_
  repeat refine qq ?_
  refine EvC.block ?_
  refine EvC.loop (fun mm fr st => ∃ (i : Nat) (a : Int) (done : List Int) (pd : D), fr.clean = ⟨89, [ixF_Bc fr 0, .int .i64 (ru : Nat), ixF_Bc fr 2, .ptr k3 0 0, ixF_Bc fr 4, ixF_Bc fr 5, .ptr k6 0 0, .bool false, .ptr k35 0 0, .int .i64 a, ixF_Bc fr 10, ixF_Bc fr 11, ixF_Bc fr 12, ixF_Bc fr 13, ixF_Bc fr 14, ixF_Bc fr 15, ixF_Bc fr 16, ixF_Bc fr 17, ixF_Bc fr 18, ixF_Bc fr 19, ixF_Bc fr 20, ixF_Bc fr 21, ixF_Bc fr 22, ixF_Bc fr 23, ixF_Bc fr 24, ixF_Bc fr 25, ixF_Bc fr 26, ixF_Bc fr 27, ixF_Bc fr 28, ixF_Bc fr 29, ixF_Bc fr 30, ixF_Bc fr 31, ixF_Bc fr 32, ixF_Bc fr 33, ixF_Bc fr 34, ixF_Bc fr 35, ixF_Bc fr 36, ixF_Bc fr 37, ixF_Bc fr 38, gotsD gs, .int .i64 (gs.length : Nat), .int .i64 (i : Nat), ixF_Bc fr 42, ixF_Bc fr 43, ixF_Bc fr 44, ixF_Bc fr 45, ixF_Bc fr 46, ixF_Bc fr 47, ixF_Bc fr 48, ixF_Bc fr 49, ixF_Bc fr 50, ixF_Bc fr 51, ixF_Bc fr 52, ixF_Bc fr 53, ixF_Bc fr 54, ixF_Bc fr 55, ixF_Bc fr 56, ixF_Bc fr 57, ixF_Bc fr 58, ixF_Bc fr 59, ixF_Bc fr 60, ixF_Bc fr 61, ixF_Bc fr 62, ixF_Bc fr 63, ixF_Bc fr 64, ixF_Bc fr 65, ixF_Bc fr 66, ixF_Bc fr 67, ixF_Bc fr 68, ixF_Bc fr 69, ixF_Bc fr 70, ixF_Bc fr 71, ixF_Bc fr 72, ixF_Bc fr 73, ixF_Bc fr 74, ixF_Bc fr 75, ixF_Bc fr 76, ixF_Bc fr 77, ixF_Bc fr 78, ixF_Bc fr 79, ixF_Bc fr 80, ixF_Bc fr 81, ixF_Bc fr 82, ixF_Bc fr 83, ixF_Bc fr 84, ixF_Bc fr 85, ixF_Bc fr 86, ixF_Bc fr 87, ixF_Bc fr 88], []⟩ ∧ Has s0.bs.length S st [.box k35 (.mem 0 false [p.cd, p.sd, gotsD gs, pd, .nul, .nul]), .lst pd 1 (done.map intC), .box k6 (.mem 0 false (capsC zeroCaps)), .box k3 (.mem 0 false [p.cd, p.sd])] ∧ (i + mm = gs.length) ∧ (done ++ plS a (gs.drop i) = plS 0 gs) ∧ (0 ≤ a) ∧ (a ≤ 1048576 * i) ∧ (done.length = i)) (gs.length) ?_ ?_
  ·refine ⟨0, 0, [], .nul, rfl, ?_, by omega, rfl, Int.le_refl _, (by omega), rfl⟩
   exact (((hH.drop 0).erase 1).nulE 1).front (j := 1) rfl
  rintro mm fr st ⟨i, a, done, pd, hfr, hH, hi, hdn, ha0, ha1, hdl⟩
  rw [hfr]
  clear hfr
  try generalize ixF_Bc fr = ee
  clear fr
  try refine qy ?_
  repeat refine qq ?_
  try generalize hK : SeqQ _ _ _ _ = K
  refine EvC.reg ?_
  refine qg ?_
  refine EvO.nil ?_
  try subst hK
  try refine qy ?_
  repeat refine qq ?_
  refine qc (fun h3 => ?_) (fun h3 => ?_) <;> try simp only [cs] at h3
  ·refine EvC.skip ?_
   try refine qy ?_
   obtain ⟨g, hg⟩ : ∃ g, gs[i]? = some g := ⟨gs[i]'(by omega), List.getElem?_eq_getElem _⟩
   have hg2 := hgs g (List.mem_of_getElem? hg)
   have hr1 : (gs.map gotC)[i]? = some (gotC g) := by rw [List.getElem?_map, hg]; rfl
   have hdr : gs.drop i = g :: gs.drop (i + 1) := by
    have := List.drop_eq_getElem_cons (l := gs) (i := i) (by omega)
    rw [this]; congr 1
    rw [List.getElem?_eq_getElem (by omega)] at hg
    exact Option.some.inj hg
   try refine qy ?_
   repeat refine qq ?_
   refine EvC.block ?_
   try refine qy ?_
   repeat refine qq ?_
   try generalize hK : SeqQ _ _ _ _ = K
   refine EvC.reg ?_
   refine qr fun p43 hp43 => ?_
   refine EvO.rloadS rfl (ev rfl) (by assumption) rfl (by dsimp only [Fr.put, List.set_cons_succ, List.set_cons_zero] <;> rfl) ?_
   refine qa hH fun k11 st hk11 hH => ?_
   try dsimp only [u2, u1, u3, u4, setMany, u5, u6, D.cells, Nat.reduceAdd, insC, intC, boolC, tryC, capsC, noCaps, zeroCaps] at hH
   refine qS hH at0 fun st hH => ?_
   try dsimp only [u2, u1, u3, u4, setMany, u5, u6, D.cells, Nat.reduceAdd, insC, intC, boolC, tryC, capsC, noCaps, zeroCaps] at hH
   refine EvO.nil ?_
   try subst hK
   try refine qy ?_
   repeat refine qq ?_
   try generalize hK : SeqQ _ _ _ _ = K
   refine EvC.reg ?_
   refine qm ?_
   refine qm ?_
   refine qg ?_
   refine qp (o := 3) ?_
   refine ql hH at1 ?_
   refine qm ?_
   refine qh (s := 1) (vs := [_]) hH fun k51 st hk51 hH => ?_
   try dsimp only [u2, u1, u3, u4, setMany, u5, u6, D.cells, Nat.reduceAdd, insC, intC, boolC, tryC, capsC, noCaps, zeroCaps] at hH
   refine qP hH at3 (hH.rows at0) fun x52 st hH => ?_
   try dsimp only [u2, u1, u3, u4, setMany, u5, u6, D.cells, Nat.reduceAdd, insC, intC, boolC, tryC, capsC, noCaps, zeroCaps] at hH
   refine qg ?_
   refine qp (o := 3) ?_
   refine qT hH at2 (fun st hH => ?_) (hcs := hH.ocells at3)
   try dsimp only [u2, u1, u3, u4, setMany, u5, u6, D.cells, Nat.reduceAdd, insC, intC, boolC, tryC, capsC, noCaps, zeroCaps] at hH
   refine EvO.nil ?_
   try subst hK
   try refine qy ?_
   repeat refine qq ?_
   try generalize hK : SeqQ _ _ _ _ = K
   refine EvC.reg ?_
   refine qm ?_
   refine qp (o := 1) ?_
   refine ql hH at1 ?_
   refine qA ?_
   refine qm ?_
   refine EvO.nil ?_
   try subst hK
   try refine qy ?_
   repeat refine qq ?_
   try generalize hK : SeqQ _ _ _ _ = K
   refine EvC.reg ?_
   refine qA ?_
   refine qm ?_
   refine EvO.nil ?_
   try subst hK
   try refine qy ?_
   exact ⟨mm - 1, by omega, ⟨i + 1, a + (g.2 : Nat), done ++ [a], x52, rfl, (by rw [List.map_append]; exact hH.drop 2), by omega, by rw [← hdn, hdr]; simp [plS], by omega, by omega, by simp [hdl]⟩⟩
  ·try refine qy ?_
   refine EvC.exit ?_
   try refine qy ?_
   have hdr : gs.drop i = [] := List.drop_eq_nil_of_le (by omega)
   rw [hdr] at hdn
   simp only [plS] at hdn
   have hpl := plS_len gs 0
   try refine qy ?_
   repeat refine qq ?_
   try generalize hK : SeqQ _ _ _ _ = K
   refine EvC.reg ?_
   refine qm ?_
   refine qm ?_
   refine qg ?_
   refine qp (o := 3) ?_
   refine ql hH at0 ?_
   refine qm ?_
   refine qh (s := 1) (vs := [_]) hH fun k66 st hk66 hH => ?_
   try dsimp only [u2, u1, u3, u4, setMany, u5, u6, D.cells, Nat.reduceAdd, insC, intC, boolC, tryC, capsC, noCaps, zeroCaps] at hH
   refine qP hH at2 (hH.rows at0) fun x67 st hH => ?_
   try dsimp only [u2, u1, u3, u4, setMany, u5, u6, D.cells, Nat.reduceAdd, insC, intC, boolC, tryC, capsC, noCaps, zeroCaps] at hH
   refine qg ?_
   refine qp (o := 3) ?_
   refine qT hH at1 (fun st hH => ?_) (hcs := hH.ocells at2)
   try dsimp only [u2, u1, u3, u4, setMany, u5, u6, D.cells, Nat.reduceAdd, insC, intC, boolC, tryC, capsC, noCaps, zeroCaps] at hH
   refine EvO.nil ?_
   try subst hK
   try refine qy ?_
   have hH : Has s0.bs.length S st [.box k35 (.mem 0 false [p.cd, p.sd, gotsD gs, x67, .nul, .nul]), .lst x67 1 ((plS 0 gs).map intC), .box k6 (.mem 0 false (capsC zeroCaps)), .box k3 (.mem 0 false [p.cd, p.sd])] := by
    rw [← hdn, List.map_append]; exact hH.drop 1
   rw [← hpl] at hsz ⊢
   generalize plS 0 gs = pls at *
   try refine qy ?_
   repeat refine qq ?_
   try generalize hK : SeqQ _ _ _ _ = K
   refine EvC.reg ?_
   refine qm ?_
   refine qm ?_
   refine qg ?_
   refine qp (o := 3) ?_
   refine ql hH at0 ?_
   refine qn ?_ (hR := hH.rows at1)
   try simp only [List.length_map, List.length_append, List.length_cons, List.length_nil, List.length_set, List.length_replicate, List.length_reverse]
   refine qp (o := 0) ?_
   refine ql hH at3 ?_
   refine qn ?_
   try simp only [List.length_map, List.length_append, List.length_cons, List.length_nil, List.length_set, List.length_replicate, List.length_reverse]
   refine EvO.mulZ (z := ((pls.length * p.code.length : Nat) : Int)) rfl (ev rfl) (ev rfl) (by rw [← Int.natCast_mul]; exact wrap_nat (by simp only [maxN]; omega)) (by dsimp only [Fr.put, List.set_cons_succ, List.set_cons_zero] <;> rfl) ?_
   refine EvO.hmake (s := 1) hH rfl rfl rfl rfl rfl rfl rfl rfl (Nat.le_of_ble_eq_true rfl) (by omega) (fun _ => by dsimp only [Fr.put, List.set_cons_succ, List.set_cons_zero] <;> rfl) (fun k80 st hk80 hH => ?_)
   try dsimp only [u2, u1, u3, u4, setMany, u5, u6, D.cells, Nat.reduceAdd, insC, intC, boolC, tryC, capsC, noCaps, zeroCaps] at hH
   refine qg ?_
   refine qp (o := 4) ?_
   refine qT hH at1 fun st hH => ?_
   try dsimp only [u2, u1, u3, u4, setMany, u5, u6, D.cells, Nat.reduceAdd, insC, intC, boolC, tryC, capsC, noCaps, zeroCaps] at hH
   refine EvO.nil ?_
   try subst hK
   try refine qy ?_
   repeat refine qq ?_
   try generalize hK : SeqQ _ _ _ _ = K
   refine EvC.reg ?_
   refine qm ?_
   refine qg ?_
   refine qp (o := 3) ?_
   refine ql hH at1 ?_
   refine qn ?_ (hR := hH.rows at2)
   try simp only [List.length_map, List.length_append, List.length_cons, List.length_nil, List.length_set, List.length_replicate, List.length_reverse]
   refine qm ?_
   refine EvO.nil ?_
   try subst hK
   try refine qy ?_
   obtain ⟨R, hR0⟩ : ∃ R, findP (idxP p.code.length) (stepS p.code gs pls) (3 * (pls.length * p.code.length) + 1) sn pls.length 0 (List.replicate (pls.length * p.code.length) false) = R := ⟨_, rfl⟩
   rw [hR0]
   try refine qy ?_
   repeat refine qq ?_
   refine EvC.block ?_
   refine EvC.loop (fun mm fr st => ∃ (i : Nat) (ar : List Bool) (ld : D) (old : List (List D)), fr.clean = ⟨89, [ixF_Bc fr 0, .int .i64 (ru : Nat), ixF_Bc fr 2, .ptr k3 0 0, ixF_Bc fr 4, ixF_Bc fr 5, .ptr k6 0 0, .bool false, .ptr k35 0 0, ixF_Bc fr 9, ixF_Bc fr 10, ixF_Bc fr 11, ixF_Bc fr 12, ixF_Bc fr 13, ixF_Bc fr 14, ixF_Bc fr 15, ixF_Bc fr 16, ixF_Bc fr 17, ixF_Bc fr 18, ixF_Bc fr 19, ixF_Bc fr 20, ixF_Bc fr 21, ixF_Bc fr 22, ixF_Bc fr 23, ixF_Bc fr 24, ixF_Bc fr 25, ixF_Bc fr 26, ixF_Bc fr 27, ixF_Bc fr 28, ixF_Bc fr 29, ixF_Bc fr 30, ixF_Bc fr 31, ixF_Bc fr 32, ixF_Bc fr 33, ixF_Bc fr 34, ixF_Bc fr 35, ixF_Bc fr 36, ixF_Bc fr 37, ixF_Bc fr 38, ixF_Bc fr 39, ixF_Bc fr 40, ixF_Bc fr 41, ixF_Bc fr 42, ixF_Bc fr 43, ixF_Bc fr 44, ixF_Bc fr 45, ixF_Bc fr 46, ixF_Bc fr 47, ixF_Bc fr 48, ixF_Bc fr 49, ixF_Bc fr 50, ixF_Bc fr 51, ixF_Bc fr 52, ixF_Bc fr 53, ixF_Bc fr 54, ixF_Bc fr 55, ixF_Bc fr 56, ixF_Bc fr 57, ixF_Bc fr 58, ixF_Bc fr 59, ixF_Bc fr 60, ixF_Bc fr 61, ixF_Bc fr 62, ixF_Bc fr 63, ixF_Bc fr 64, ixF_Bc fr 65, ixF_Bc fr 66, ixF_Bc fr 67, ixF_Bc fr 68, ixF_Bc fr 69, ixF_Bc fr 70, ixF_Bc fr 71, ixF_Bc fr 72, ixF_Bc fr 73, ixF_Bc fr 74, ixF_Bc fr 75, ixF_Bc fr 76, ixF_Bc fr 77, ixF_Bc fr 78, ixF_Bc fr 79, ixF_Bc fr 80, ixF_Bc fr 81, ixF_Bc fr 82, ixF_Bc fr 83, ixF_Bc fr 84, ixF_Bc fr 85, ixF_Bc fr 86, .int .i64 (pls.length : Nat), .int .i64 (i : Nat)], []⟩ ∧ Has s0.bs.length S st [.box k35 (.mem 0 false [p.cd, p.sd, gotsD gs, x67, .win k80 0 0 (pls.length * p.code.length) 1, ld]), .lst ld 12 old, .lst x67 1 (pls.map intC), .lst (.win k80 0 0 (pls.length * p.code.length) 1) 1 (ar.map boolC), .box k6 (.mem 0 false (capsC zeroCaps)), .box k3 (.mem 0 false [p.cd, p.sd])] ∧ (i + mm = pls.length) ∧ (ar.length = pls.length * p.code.length) ∧ (findP (idxP p.code.length) (stepS p.code gs pls) (3 * (pls.length * p.code.length) + 1) sn mm i ar = R)) (pls.length) ?_ ?_
   ·refine ⟨0, List.replicate (pls.length * p.code.length) false, .nul, [], rfl, ?_, by omega, by rw [List.length_replicate], hR0⟩
    rw [List.map_replicate]
    exact ((hH.front (j := 2) rfl).nulE 12).front (j := 3) rfl
   rintro mm fr st ⟨i, ar, ld, old, hfr, hH, hi, har, hfd⟩
   rw [hfr]
   clear hfr
   try generalize ixF_Bc fr = ee
   clear fr
   try refine qy ?_
   repeat refine qq ?_
   try generalize hK : SeqQ _ _ _ _ = K
   refine EvC.reg ?_
   refine qg ?_
   refine EvO.nil ?_
   try subst hK
   try refine qy ?_
   repeat refine qq ?_
   refine qc (fun h4 => ?_) (fun h4 => ?_) <;> try simp only [cs] at h4
   ·refine EvC.skip ?_
    try refine qy ?_
    obtain ⟨mm, rfl⟩ : ∃ m', mm = m' + 1 := ⟨mm - 1, by omega⟩
    try refine qy ?_
    repeat refine qq ?_
    refine EvC.block ?_
    try refine qy ?_
    repeat refine qq ?_
    try generalize hK : SeqQ _ _ _ _ = K
    refine EvC.reg ?_
    refine qm ?_
    refine qm ?_
    refine EvO.nil ?_
    try subst hK
    try refine qy ?_
    obtain ⟨d, st1, hev, ld', old', hd, hH2⟩ := from3_ev (start := sn) (i := i) hF hp hR (by omega) hpl (by rw [← hpl]; exact hsz) (by rw [← hpl]; exact har) (by omega) (by omega) hH
    rw [har] at hd hH2
    cases hD : (dfsF (idxP p.code.length) (stepS p.code gs pls) (3 * (pls.length * p.code.length) + 1) ar [⟨sn, i, noCaps⟩]).1 with
    | some c =>
     simp only [findP, hD] at hfd
     rw [hD] at hd
     have hd : d = .tup [.agg (capsC c), .bool true] := hd
     subst hd
     try refine qy ?_
     repeat refine qq ?_
     try generalize hK : SeqQ _ _ _ _ = K
     refine EvC.reg ?_
     refine qm ?_
     refine qp (o := 1) ?_
     refine ql hH at5 ?_
     refine qm ?_
     refine qr fun p96 hp96 => ?_
     refine qR ?_
     refine qm ?_
     refine EvO.hcall rfl rfl (hev) (put_T rfl _) ?_
     refine qm ?_
     refine qg ?_
     refine qg ?_
     refine EvO.halloc hH2 rfl rfl (fun _ => by dsimp only [Fr.put, List.set_cons_succ, List.set_cons_zero] <;> rfl) (fun k13 st hk13 hH => ?_)
     try dsimp only [capsC, zeroCaps] at hH
     refine qT hH at0 fun st hH => ?_
     try dsimp only [u2, u1, u3, u4, setMany, u5, u6, D.cells, Nat.reduceAdd, insC, intC, boolC, tryC, capsC, noCaps, zeroCaps] at hH
     refine qm ?_
     refine EvO.nil ?_
     try subst hK
     try refine qy ?_
     repeat refine qq ?_
     try generalize hK : SeqQ _ _ _ _ = K
     refine EvC.reg ?_
     refine qm ?_
     refine EvO.nil ?_
     try subst hK
     try refine qy ?_
     repeat refine qq ?_
     refine EvC.cond (v := true) (by rfl) (fun _ => ?_) (fun h => by cases h)
     try refine qy ?_
     repeat refine qq ?_
     try generalize hK : SeqQ _ _ _ _ = K
     refine EvC.reg ?_
     refine EvO.hloadS (m := 10) hH rfl (ev rfl) (by exact at0) (by dsimp only [List.drop_succ_cons, List.drop_zero, List.take_succ_cons, List.take_zero, insC, intC, boolC, tryC, capsC, noCaps, zeroCaps] <;> rfl) rfl rfl (put_T rfl _) ?_
     refine qS hH at5 fun st hH => ?_
     try dsimp only [u2, u1, u3, u4, setMany, u5, u6, D.cells, Nat.reduceAdd, insC, intC, boolC, tryC, capsC, noCaps, zeroCaps] at hH
     refine qm ?_
     refine EvO.nil ?_
     try subst hK
     try refine qy ?_
     rw [← hfd]
     refine EvC.ret ⟨fun i h => (by cases h), _, hH.resCellT rfl at5 rfl rfl, leave_ro (by simp) hSb hH rfl⟩
    | none =>
     have hlen2 := dfsF_len (idxP p.code.length) (stepS p.code gs pls) (3 * (pls.length * p.code.length) + 1) ar [⟨sn, i, noCaps⟩]
     simp only [findP, hD] at hfd
     rw [hD] at hd
     have hd : d = .tup [.agg (capsC zeroCaps), .bool false] := hd
     subst hd
     try refine qy ?_
     repeat refine qq ?_
     try generalize hK : SeqQ _ _ _ _ = K
     refine EvC.reg ?_
     refine qm ?_
     refine qp (o := 1) ?_
     refine ql hH at5 ?_
     refine qm ?_
     refine qr fun p96 hp96 => ?_
     refine qR ?_
     refine qm ?_
     refine EvO.hcall rfl rfl (hev) (put_T rfl _) ?_
     refine qm ?_
     refine qg ?_
     refine qg ?_
     refine EvO.halloc hH2 rfl rfl (fun _ => by dsimp only [Fr.put, List.set_cons_succ, List.set_cons_zero] <;> rfl) (fun k13 st hk13 hH => ?_)
     try dsimp only [capsC, zeroCaps] at hH
     refine qT hH at0 fun st hH => ?_
     try dsimp only [u2, u1, u3, u4, setMany, u5, u6, D.cells, Nat.reduceAdd, insC, intC, boolC, tryC, capsC, noCaps, zeroCaps] at hH
     refine qm ?_
     refine EvO.nil ?_
     try subst hK
     try refine qy ?_
     repeat refine qq ?_
     try generalize hK : SeqQ _ _ _ _ = K
     refine EvC.reg ?_
     refine qm ?_
     refine EvO.nil ?_
     try subst hK
     try refine qy ?_
     repeat refine qq ?_
     refine EvC.cond (v := false) (by rfl) (fun h => by cases h) (fun _ => ?_)
     try refine qy ?_
     refine EvC.skip ?_
     try refine qy ?_
     repeat refine qq ?_
     try generalize hK : SeqQ _ _ _ _ = K
     refine EvC.reg ?_
     refine qA ?_
     refine qm ?_
     refine EvO.nil ?_
     try subst hK
     try refine qy ?_
     exact ⟨mm, by omega, ⟨i + 1, _, ld', old', rfl, (hH.drop 1), by omega, by rw [hlen2]; exact har, hfd⟩⟩
   ·try refine qy ?_
    refine EvC.exit ?_
    try refine qy ?_
    repeat refine qq ?_
    try generalize hK : SeqQ _ _ _ _ = K
    refine EvC.reg ?_
    refine EvO.go (d := .agg (capsC zeroCaps)) (st1 := _) rfl rfl rfl (put_T rfl _) ?_
    refine qS hH at4 fun st hH => ?_
    try dsimp only [u2, u1, u3, u4, setMany, u5, u6, D.cells, Nat.reduceAdd, insC, intC, boolC, tryC, capsC, noCaps, zeroCaps] at hH
    refine qm ?_
    refine EvO.nil ?_
    try subst hK
    try refine qy ?_
    have hfin : R = none := by
     have : mm = 0 := by omega
     subst this
     rw [← hfd]; rfl
    rw [hfin]
    refine EvC.ret ⟨fun i h => (by cases h), _, hH.resCellT rfl at4 rfl rfl, leave_ro (by simp) hSb hH rfl⟩
end Go.Proofs.YtbdilgkfnacahaaGreat
