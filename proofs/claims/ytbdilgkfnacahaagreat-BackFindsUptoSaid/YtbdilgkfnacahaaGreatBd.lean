/-
 The reference's search: the places; what a document's search says.
-/
import Derived.Test.YtbdilgkfnacahaaGreatBc
import Derived.Test.YtbdilgkfnacahaaGreatJk
namespace Go.Proofs.YtbdilgkfnacahaaGreat
open Go.V Go
set_option maxRecDepth 100000
set_option maxHeartbeats 4000000
set_option linter.unusedSimpArgs false
set_option linter.unusedVariables false

/-- what a frame holds at a slot -/
def ixF_Bd (fr : Go.V.Fr) (k : Nat) : Go.V.D := Go.V.nth .junk fr.loc k

theorem plS_zero (l : List (Nat × Nat)) (a : Int) : (plS a l)[0]? = some a := by cases l <;> rfl
theorem plS_succ : ∀ (l : List (Nat × Nat)) (a : Int) (i : Nat) (v : Int) (g : Nat × Nat), (plS a l)[i]? = some v → l[i]? = some g → (plS a l)[i + 1]? = some (v + (g.2 : Nat))
 | [], _, _, _, _, _, h => by simp at h
 | x :: r, a, 0, v, g, h1, h2 => by
  simp only [plS, List.getElem?_cons_zero, Option.some.injEq] at h1 h2
  subst h1; subst h2
  simp only [plS, List.getElem?_cons_succ]
  exact plS_zero r _
 | x :: r, a, i + 1, v, g, h1, h2 => by
  simp only [plS, List.getElem?_cons_succ] at h1 h2 ⊢
  exact plS_succ r _ i v g h1 h2
theorem plS_le : ∀ (l : List (Nat × Nat)) (a : Int) (i : Nat) (v : Int), (∀ g ∈ l, g.2 ≤ 1048576) → (plS a l)[i]? = some v → a ≤ v ∧ v ≤ a + 1048576 * i
 | [], a, i, v, _, h => by
  cases i with
  | zero => simp only [plS, List.getElem?_cons_zero, Option.some.injEq] at h; omega
  | succ i => simp [plS] at h
 | x :: r, a, 0, v, _, h => by
  simp only [plS, List.getElem?_cons_zero, Option.some.injEq] at h; omega
 | x :: r, a, i + 1, v, hs, h => by
  simp only [plS, List.getElem?_cons_succ] at h
  have h1 := plS_le r _ i v (fun g hg => hs g (List.mem_cons_of_mem _ hg)) h
  have h2 := hs x (List.mem_cons_self ..)
  omega

/-- where a pair stands in the document's list -/
def idxR (n : Nat) (pc at_ : Nat) : Nat := pc * (n + 1) + at_

/-- from every place; what was seen is forgotten -/
def findR (idx : Nat → Nat → Nat) (stp : Tr3 → Res) (fuel start : Nat) (zero : List Bool) : Nat → Nat → Option Cps
 | 0, _ => none
 | m + 1, i => match (dfsF idx stp fuel zero [⟨start, i, noCaps⟩]).1 with
  | some c => some c
  | none => findR idx stp fuel start zero m (i + 1)

noncomputable def refFind (p : Pg) (rule : Int) (b : List UInt8) : Option Cps :=
 if dec (RightQ p) = true ∧ 0 ≤ rule ∧ rule < (p.starts.length : Int) then
  findR (idxR (allS b).length) (stepS p.code (allS b) (plS 0 (allS b))) (3 * (p.code.length * ((allS b).length + 1)) + 1) (p.starts.getD rule.toNat 0).toNat (List.replicate (p.code.length * ((allS b).length + 1)) false) ((allS b).length + 1) 0
 else none

theorem rfind3_ev {s0 : St} {p : Pg} {b : List UInt8} (hnone : ∀ st, Ev pv 30 [] st (.agg (capsC noCaps)) st) (hp : p.ok) (rule : Int) (hbl : b.length ≤ 1048576) (hsz : p.code.length * ((allS b).length + 1) ≤ 134217728) :
  Ev pv 10 [p.d, .int .i64 rule, .str b] s0 (outC (refFind p rule b)) s0 := by
 obtain ⟨hgl, hgs⟩ := allS_len _ b (Nat.le_refl _)
 have hev : ∀ (st : St) (x : D), Bytes st x b → Ev pv 29 [x] st (gotsD (allS b)) st := fun st x h => rall_ev h hbl
 unfold refFind
 generalize allS b = gs at *
 refine Ev.mk1 rfl fi10 rfl rfl rfl ?_
 dsimp only [List.cons_append, List.nil_append, List.length, Nat.reduceSub, Nat.reduceAdd, List.replicate_succ, List.replicate_zero]
 have hSb : (enterSt .ro s0).bs = s0.bs := rfl
 have hF : (enterSt .ro s0).flr ≤ s0.bs.length := Nat.le_refl _
 have hH : Has s0.bs.length (enterSt .ro s0) (enterSt .ro s0) [] := Has.start (Nat.le_refl _) (Nat.le_refl _)
 generalize enterSt .ro s0 = S at *
 have hc := hp.c.arg s0.bs.length S
 have hs := hp.s.arg s0.bs.length S
 have hlen := hp.cl
 have hsl := hp.sl
 unfold Pg.d
 try refine qy ?_
 repeat refine qq ?_
 try generalize hK : SeqQ _ _ _ _ = K
 refine EvC.reg ?_
 refine qb hH fun k3 st hk3 hH => ?_
 try dsimp only [u2, u1, u3, u4, setMany, u5, u6, D.cells, Nat.reduceAdd, insC, intC, boolC, tryC, capsC, noCaps, zeroCaps] at hH
 refine qa hH fun k6 st hk6 hH => ?_
 try dsimp only [u2, u1, u3, u4, setMany, u5, u6, D.cells, Nat.reduceAdd, insC, intC, boolC, tryC, capsC, noCaps, zeroCaps] at hH
 refine qm ?_
 refine EvO.nil ?_
 try subst hK
 try refine qy ?_
 repeat refine qq ?_
 refine EvC.cutL 29 (.bool ((!dec (RightQ p) || decide (rule < 0)) || decide (rule ≥ p.starts.length))) [16, 17, 18, 19, 20, 21, 22, 23, 24, 25, 26, 27, 28] ?_ (fun ff tmp => ?_)
 ·refine EvO.hloadS (m := 2) hH rfl (ev rfl) (by exact at1) (by dsimp only [List.drop_succ_cons, List.drop_zero, List.take_succ_cons, List.take_zero, insC, intC, boolC, tryC, capsC, noCaps, zeroCaps] <;> rfl) rfl rfl (by dsimp only [Fr.put, List.set_cons_succ, List.set_cons_zero] <;> rfl) ?_
  refine EvO.hcall rfl rfl (refRightQ_ev (p := p) hp) (by dsimp only [Fr.put, List.set_cons_succ, List.set_cons_zero] <;> rfl) ?_
  refine qg ?_
  refine qm ?_
  refine EvO.two 19 rfl (fun hg3 => ?_) (fun hg3 => ?_)
  ·refine qs ?_ (hg := wn hg3)
   refine qs ?_ (hg := wn hg3)
   refine qt hg3 ?_
   refine qm ?_
   refine qs ?_
   refine qs ?_
   refine qs ?_
   refine qs ?_
   refine qs ?_
   refine qg ?_
   refine EvO.nil (leafL ?_)
   try dsimp only [setW, List.foldl, nth, u2, u1]
   try dsimp only [Fr.putO, Fr.put, Fr.clean, Fr.ev, Fr.get, nth, Go.V.look, u1, u2, v1, v2, v3, v4, v5, v6, v7, List.length, u3, u4, Nat.reduceSub, Nat.reduceAdd, List.map]
   all_goals (simp [hg3]; done)
  ·refine qm ?_ (hg := wi hg3)
   refine qg ?_ (hg := wi hg3)
   refine qu hg3 ?_
   refine qm ?_
   refine EvO.two 23 rfl (fun hg7 => ?_) (fun hg7 => ?_)
   ·refine qs ?_ (hg := wn hg7)
    refine qs ?_ (hg := wn hg7)
    refine qs ?_ (hg := wn hg7)
    refine qs ?_ (hg := wn hg7)
    refine qs ?_ (hg := wn hg7)
    refine qt hg7 ?_
    refine EvO.nil (leafL ?_)
    try dsimp only [setW, List.foldl, nth, u2, u1]
    try dsimp only [Fr.putO, Fr.put, Fr.clean, Fr.ev, Fr.get, nth, Go.V.look, u1, u2, v1, v2, v3, v4, v5, v6, v7, List.length, u3, u4, Nat.reduceSub, Nat.reduceAdd, List.map]
    all_goals (simp [hg3, hg7]; done)
   ·refine qm ?_ (hg := wi hg7)
    refine qp (o := 1) ?_ (hg := wi hg7)
    refine ql hH at1 ?_ (hg := wi hg7)
    refine qn ?_ (hg := wi hg7)
    try simp only [List.length_map, List.length_append, List.length_cons, List.length_nil, List.length_set, List.length_replicate, List.length_reverse]
    refine qg ?_ (hg := wi hg7)
    refine qu hg7 ?_
    refine EvO.nil (leafL ?_)
    try dsimp only [setW, List.foldl, nth, u2, u1]
    try dsimp only [Fr.putO, Fr.put, Fr.clean, Fr.ev, Fr.get, nth, Go.V.look, u1, u2, v1, v2, v3, v4, v5, v6, v7, List.length, u3, u4, Nat.reduceSub, Nat.reduceAdd, List.map]
    all_goals (simp [hg3, hg7]; done)
 try dsimp only [setW, List.foldl, nth, u2, u1]
 generalize ff 16 = e16
 generalize ff 17 = e17
 generalize ff 18 = e18
 generalize ff 19 = e19
 generalize ff 20 = e20
 generalize ff 21 = e21
 generalize ff 22 = e22
 generalize ff 23 = e23
 generalize ff 24 = e24
 generalize ff 25 = e25
 generalize ff 26 = e26
 generalize ff 27 = e27
 generalize ff 28 = e28
 try dsimp only [Fr.putO, Fr.put, Fr.clean, Fr.ev, Fr.get, nth, Go.V.look, u1, u2, v1, v2, v3, v4, v5, v6, v7, List.length, u3, u4, Nat.reduceSub, Nat.reduceAdd, List.map]
 try refine qy ?_
 repeat refine qq ?_
 refine qc (fun h0 => ?_) (fun h0 => ?_) <;> try simp only [cs] at h0
 ·have hn : ¬ (dec (RightQ p) = true ∧ 0 ≤ rule ∧ rule < (p.starts.length : Int)) := by
   rintro ⟨h1, h2, h3⟩
   rw [h1] at h0
   simp at h0; omega
  rw [if_neg hn]
  try refine qy ?_
  repeat refine qq ?_
  try generalize hK : SeqQ _ _ _ _ = K
  refine EvC.reg ?_
  refine EvO.go (d := .agg (capsC zeroCaps)) (st1 := _) rfl rfl rfl (by dsimp only [Fr.put, List.set_cons_succ, List.set_cons_zero] <;> rfl) ?_
  refine qS hH at0 fun st hH => ?_
  try dsimp only [u2, u1, u3, u4, setMany, u5, u6, D.cells, Nat.reduceAdd, insC, intC, boolC, tryC, capsC, noCaps, zeroCaps] at hH
  refine qm ?_
  refine EvO.nil ?_
  try subst hK
  try refine qy ?_
  refine EvC.ret ⟨fun i h => (by cases h), _, hH.resCellT rfl at0 rfl rfl, leave_ro (by simp) hSb hH rfl⟩
 ·have h1 : RightQ p ∧ 0 ≤ rule ∧ rule < (p.starts.length : Int) := by
   simp only [Bool.or_eq_false_iff, Bool.not_eq_false', decide_eq_false_iff_not] at h0
   exact ⟨dec_true h0.1.1, by omega, by omega⟩
  obtain ⟨hR, hin0, hin1⟩ := h1
  rw [if_pos ⟨dec_yes hR, hin0, hin1⟩]
  obtain ⟨ru, rfl⟩ := Int.eq_ofNat_of_zero_le hin0
  obtain ⟨start, hs1⟩ : ∃ v, p.starts[ru]? = some v := ⟨p.starts[ru]'(by omega), List.getElem?_eq_getElem _⟩
  have hst := hR.st start (List.mem_of_getElem? hs1)
  obtain ⟨sn, rfl⟩ := Int.eq_ofNat_of_zero_le hst.1
  have hgd : (p.starts.getD ((ru : Nat) : Int).toNat 0).toNat = sn := by
   rw [Int.toNat_natCast, List.getD_eq_getElem?_getD, hs1]; rfl
  rw [hgd]
  have hr0 := int_get hs1
  have hgr : Arg s0.bs.length S 2 (gotsD gs) (gs.map gotC) := Arg.pure (fun st => gots_rows st gs)
  refine EvC.skip ?_
  try refine qy ?_
  repeat refine qq ?_
  try generalize hK : SeqQ _ _ _ _ = K
  refine EvC.reg ?_
  refine qm ?_
  refine EvO.hbytes hH rfl rfl rfl rfl rfl (by omega) (fun _ => by dsimp only [Fr.put, List.set_cons_succ, List.set_cons_zero] <;> rfl) (fun k32 st hk32 hH => ?_)
  refine EvO.hcall rfl rfl ((hev _ _ (hH.rows at0))) (by dsimp only [Fr.put, List.set_cons_succ, List.set_cons_zero] <;> rfl) ?_
  refine qm ?_
  refine EvO.nil ?_
  try subst hK
  try refine qy ?_
  repeat refine qq ?_
  try generalize hK : SeqQ _ _ _ _ = K
  refine EvC.reg ?_
  refine qm ?_
  refine qn ?_
  try simp only [List.length_map, List.length_append, List.length_cons, List.length_nil, List.length_set, List.length_replicate, List.length_reverse]
  refine qA ?_
  refine EvO.hmake (s := 1) hH rfl rfl rfl rfl rfl rfl rfl rfl (Nat.le_of_ble_eq_true rfl) (by exact Nat.le_trans (Nat.add_le_add_right (m := 1048576) (by omega) _) (by decide)) (fun _ => by dsimp only [Fr.put, List.set_cons_succ, List.set_cons_zero] <;> rfl) (fun k37 st hk37 hH => ?_)
  try dsimp only [u2, u1, u3, u4, setMany, u5, u6, D.cells, Nat.reduceAdd, insC, intC, boolC, tryC, capsC, noCaps, zeroCaps] at hH
  refine qm ?_
  refine EvO.nil ?_
  try subst hK
  try refine qy ?_
  repeat refine qq ?_
  try generalize hK : SeqQ _ _ _ _ = K
  refine EvC.reg ?_
  refine qm ?_
  refine EvO.nil ?_
  try subst hK
  try refine qy ?_
  have hpl := plS_len gs 0
  try refine qy ?_
  repeat refine qq ?_
  refine EvC.block ?_
  refine EvC.loop (fun mm fr st => ∃ (i : Nat) (pl : List Int), fr.clean = ⟨126, [ixF_Bd fr 0, .int .i64 (ru : Nat), ixF_Bd fr 2, .ptr k3 0 0, ixF_Bd fr 4, ixF_Bd fr 5, .ptr k6 0 0, .bool false, gotsD gs, .win k37 0 0 (gs.length + 1) 1, .int .i64 (i : Nat), ixF_Bd fr 11, ixF_Bd fr 12, ixF_Bd fr 13, ixF_Bd fr 14, ixF_Bd fr 15, ixF_Bd fr 16, ixF_Bd fr 17, ixF_Bd fr 18, ixF_Bd fr 19, ixF_Bd fr 20, ixF_Bd fr 21, ixF_Bd fr 22, ixF_Bd fr 23, ixF_Bd fr 24, ixF_Bd fr 25, ixF_Bd fr 26, ixF_Bd fr 27, ixF_Bd fr 28, ixF_Bd fr 29, ixF_Bd fr 30, ixF_Bd fr 31, ixF_Bd fr 32, ixF_Bd fr 33, ixF_Bd fr 34, ixF_Bd fr 35, ixF_Bd fr 36, ixF_Bd fr 37, ixF_Bd fr 38, ixF_Bd fr 39, ixF_Bd fr 40, ixF_Bd fr 41, ixF_Bd fr 42, ixF_Bd fr 43, ixF_Bd fr 44, ixF_Bd fr 45, ixF_Bd fr 46, ixF_Bd fr 47, ixF_Bd fr 48, ixF_Bd fr 49, ixF_Bd fr 50, ixF_Bd fr 51, ixF_Bd fr 52, ixF_Bd fr 53, ixF_Bd fr 54, ixF_Bd fr 55, ixF_Bd fr 56, ixF_Bd fr 57, ixF_Bd fr 58, ixF_Bd fr 59, ixF_Bd fr 60, ixF_Bd fr 61, ixF_Bd fr 62, ixF_Bd fr 63, ixF_Bd fr 64, ixF_Bd fr 65, ixF_Bd fr 66, ixF_Bd fr 67, ixF_Bd fr 68, ixF_Bd fr 69, ixF_Bd fr 70, ixF_Bd fr 71, ixF_Bd fr 72, ixF_Bd fr 73, ixF_Bd fr 74, ixF_Bd fr 75, ixF_Bd fr 76, ixF_Bd fr 77, ixF_Bd fr 78, ixF_Bd fr 79, ixF_Bd fr 80, ixF_Bd fr 81, ixF_Bd fr 82, ixF_Bd fr 83, ixF_Bd fr 84, ixF_Bd fr 85, ixF_Bd fr 86, ixF_Bd fr 87, ixF_Bd fr 88, ixF_Bd fr 89, ixF_Bd fr 90, ixF_Bd fr 91, ixF_Bd fr 92, ixF_Bd fr 93, ixF_Bd fr 94, ixF_Bd fr 95, ixF_Bd fr 96, ixF_Bd fr 97, ixF_Bd fr 98, ixF_Bd fr 99, ixF_Bd fr 100, ixF_Bd fr 101, ixF_Bd fr 102, ixF_Bd fr 103, ixF_Bd fr 104, ixF_Bd fr 105, ixF_Bd fr 106, ixF_Bd fr 107, ixF_Bd fr 108, ixF_Bd fr 109, ixF_Bd fr 110, ixF_Bd fr 111, ixF_Bd fr 112, ixF_Bd fr 113, ixF_Bd fr 114, ixF_Bd fr 115, ixF_Bd fr 116, ixF_Bd fr 117, ixF_Bd fr 118, ixF_Bd fr 119, ixF_Bd fr 120, ixF_Bd fr 121, ixF_Bd fr 122, ixF_Bd fr 123, ixF_Bd fr 124, ixF_Bd fr 125], []⟩ ∧ Has s0.bs.length S st [.lst (.win k37 0 0 (gs.length + 1) 1) 1 (pl.map intC), .box k6 (.mem 0 false (capsC zeroCaps)), .box k3 (.mem 0 false [p.cd, p.sd])] ∧ (i + mm = gs.length) ∧ (pl.length = gs.length + 1) ∧ (∀ j, j ≤ i → pl[j]? = (plS 0 gs)[j]?)) (gs.length) ?_ ?_
  ·refine ⟨0, List.replicate (gs.length + 1) 0, rfl, (by rw [List.map_replicate]; exact hH.erase 1), by omega, by rw [List.length_replicate], ?_⟩
   intro j hj
   have : j = 0 := by omega
   subst this
   rw [plS_zero, List.getElem?_replicate, if_pos (by omega)]
  rintro mm fr st ⟨i, pl, hfr, hH, hi, hpll, hple⟩
  rw [hfr]
  clear hfr
  try generalize ixF_Bd fr = ee
  clear fr
  try refine qy ?_
  repeat refine qq ?_
  try generalize hK : SeqQ _ _ _ _ = K
  refine EvC.reg ?_
  refine qm ?_
  refine qm ?_
  refine qn ?_
  try simp only [List.length_map, List.length_append, List.length_cons, List.length_nil, List.length_set, List.length_replicate, List.length_reverse]
  refine qg ?_
  refine EvO.nil ?_
  try subst hK
  try refine qy ?_
  repeat refine qq ?_
  refine qc (fun h3 => ?_) (fun h3 => ?_) <;> try simp only [cs] at h3
  ·refine EvC.skip ?_
   try refine qy ?_
   obtain ⟨g, hg⟩ : ∃ g, gs[i]? = some g := ⟨gs[i]'(by omega), List.getElem?_eq_getElem _⟩
   have hg2 := hgs g (List.mem_of_getElem? hg)
   have hr1 : (gs.map gotC)[i]? = some (gotC g) := by rw [List.getElem?_map, hg]; rfl
   obtain ⟨v, hv⟩ : ∃ v, (plS 0 gs)[i]? = some v := ⟨(plS 0 gs)[i]'(by omega), List.getElem?_eq_getElem _⟩
   have hpv := hple i (Nat.le_refl _)
   rw [hv] at hpv
   have hr2 := int_get hpv
   obtain ⟨w3, hw3⟩ : ∃ w, pl[i + 1]? = some w := ⟨pl[i + 1]'(by omega), List.getElem?_eq_getElem _⟩
   have hr3 := int_get hw3
   have hvb := plS_le gs 0 i v (fun g hg => by have := hgs g hg; omega) hv
   have hnx := plS_succ gs 0 i v g hv hg
   try refine qy ?_
   repeat refine qq ?_
   refine EvC.block ?_
   try refine qy ?_
   repeat refine qq ?_
   try generalize hK : SeqQ _ _ _ _ = K
   refine EvC.reg ?_
   refine qm ?_
   refine qm ?_
   refine qA ?_
   refine qm ?_
   refine qm ?_
   refine qi hH at0 fun p49 hp49 => ?_
   refine qo hH at0 ?_
   refine qm ?_
   refine qm ?_
   refine qr fun p53 hp53 => ?_
   refine qf (fo := 1) fun p54 hp54 => ?_
   refine qR ?_
   refine qA ?_
   refine qi hH at0 fun p57 hp57 => ?_
   refine EvO.ostore hH rfl (ev rfl) (ev rfl) (by assumption) rfl rfl (by exact at0) (by assumption) (Nat.le_of_ble_eq_true rfl) (by exact .inl hF) (fun st hH => ?_)
   try dsimp only [u2, u1, u3, u4, setMany, u5, u6, D.cells, Nat.reduceAdd, insC, intC, boolC, tryC, capsC, noCaps, zeroCaps] at hH
   refine EvO.nil ?_
   try subst hK
   try refine qy ?_
   repeat refine qq ?_
   try generalize hK : SeqQ _ _ _ _ = K
   refine EvC.reg ?_
   refine qm ?_
   refine qA ?_
   refine qm ?_
   refine EvO.nil ?_
   try subst hK
   try refine qy ?_
   have hset : (pl.set (i + 1) (v + (g.2 : Nat))).map intC = (pl.map intC).set (i + 1) [.int .i64 (v + (g.2 : Nat))] := by rw [List.map_set]; rfl
   refine ⟨mm - 1, by omega, ⟨i + 1, pl.set (i + 1) (v + (g.2 : Nat)), rfl, (by rw [hset]; exact hH), by omega, by rw [List.length_set]; exact hpll, ?_⟩⟩
   intro j hj
   by_cases he : j = i + 1
   ·subst he; rw [List.getElem?_set_self (by omega), hnx]
   ·rw [List.getElem?_set_ne (fun e => he e.symm)]; exact hple j (by omega)
  ·try refine qy ?_
   refine EvC.exit ?_
   try refine qy ?_
   have hfin : pl = plS 0 gs := by
    refine List.ext_getElem? fun j => ?_
    rcases Nat.lt_or_ge i j with h | h
    ·rw [List.getElem?_eq_none (by omega), List.getElem?_eq_none (by omega)]
    ·exact hple j h
   subst hfin
   generalize plS 0 gs = pls at *
   try refine qy ?_
   repeat refine qq ?_
   try generalize hK : SeqQ _ _ _ _ = K
   refine EvC.reg ?_
   refine qm ?_
   refine EvO.nil ?_
   try subst hK
   try refine qy ?_
   obtain ⟨R, hR0⟩ : ∃ R, findR (idxR gs.length) (stepS p.code gs pls) (3 * (p.code.length * (gs.length + 1)) + 1) sn (List.replicate (p.code.length * (gs.length + 1)) false) (gs.length + 1) 0 = R := ⟨_, rfl⟩
   rw [hR0]
   clear hple hi
   try refine qy ?_
   repeat refine qq ?_
   refine EvC.block ?_
   refine EvC.loop (fun mm fr st => ∃ (i : Nat), fr.clean = ⟨126, [ixF_Bd fr 0, .int .i64 (ru : Nat), ixF_Bd fr 2, .ptr k3 0 0, ixF_Bd fr 4, ixF_Bd fr 5, .ptr k6 0 0, .bool false, gotsD gs, .win k37 0 0 (gs.length + 1) 1, ixF_Bd fr 10, .int .i64 (i : Nat), ixF_Bd fr 12, ixF_Bd fr 13, ixF_Bd fr 14, ixF_Bd fr 15, ixF_Bd fr 16, ixF_Bd fr 17, ixF_Bd fr 18, ixF_Bd fr 19, ixF_Bd fr 20, ixF_Bd fr 21, ixF_Bd fr 22, ixF_Bd fr 23, ixF_Bd fr 24, ixF_Bd fr 25, ixF_Bd fr 26, ixF_Bd fr 27, ixF_Bd fr 28, ixF_Bd fr 29, ixF_Bd fr 30, ixF_Bd fr 31, ixF_Bd fr 32, ixF_Bd fr 33, ixF_Bd fr 34, ixF_Bd fr 35, ixF_Bd fr 36, ixF_Bd fr 37, ixF_Bd fr 38, ixF_Bd fr 39, ixF_Bd fr 40, ixF_Bd fr 41, ixF_Bd fr 42, ixF_Bd fr 43, ixF_Bd fr 44, ixF_Bd fr 45, ixF_Bd fr 46, ixF_Bd fr 47, ixF_Bd fr 48, ixF_Bd fr 49, ixF_Bd fr 50, ixF_Bd fr 51, ixF_Bd fr 52, ixF_Bd fr 53, ixF_Bd fr 54, ixF_Bd fr 55, ixF_Bd fr 56, ixF_Bd fr 57, ixF_Bd fr 58, ixF_Bd fr 59, ixF_Bd fr 60, ixF_Bd fr 61, ixF_Bd fr 62, ixF_Bd fr 63, ixF_Bd fr 64, ixF_Bd fr 65, ixF_Bd fr 66, ixF_Bd fr 67, ixF_Bd fr 68, ixF_Bd fr 69, ixF_Bd fr 70, ixF_Bd fr 71, ixF_Bd fr 72, ixF_Bd fr 73, ixF_Bd fr 74, ixF_Bd fr 75, ixF_Bd fr 76, ixF_Bd fr 77, ixF_Bd fr 78, ixF_Bd fr 79, ixF_Bd fr 80, ixF_Bd fr 81, ixF_Bd fr 82, ixF_Bd fr 83, ixF_Bd fr 84, ixF_Bd fr 85, ixF_Bd fr 86, ixF_Bd fr 87, ixF_Bd fr 88, ixF_Bd fr 89, ixF_Bd fr 90, ixF_Bd fr 91, ixF_Bd fr 92, ixF_Bd fr 93, ixF_Bd fr 94, ixF_Bd fr 95, ixF_Bd fr 96, ixF_Bd fr 97, ixF_Bd fr 98, ixF_Bd fr 99, ixF_Bd fr 100, ixF_Bd fr 101, ixF_Bd fr 102, ixF_Bd fr 103, ixF_Bd fr 104, ixF_Bd fr 105, ixF_Bd fr 106, ixF_Bd fr 107, ixF_Bd fr 108, ixF_Bd fr 109, ixF_Bd fr 110, ixF_Bd fr 111, ixF_Bd fr 112, ixF_Bd fr 113, ixF_Bd fr 114, ixF_Bd fr 115, ixF_Bd fr 116, ixF_Bd fr 117, ixF_Bd fr 118, ixF_Bd fr 119, ixF_Bd fr 120, ixF_Bd fr 121, ixF_Bd fr 122, ixF_Bd fr 123, ixF_Bd fr 124, ixF_Bd fr 125], []⟩ ∧ Has s0.bs.length S st [.lst (.win k37 0 0 (gs.length + 1) 1) 1 (pls.map intC), .box k6 (.mem 0 false (capsC zeroCaps)), .box k3 (.mem 0 false [p.cd, p.sd])] ∧ (i + mm = gs.length + 1) ∧ (findR (idxR gs.length) (stepS p.code gs pls) (3 * (p.code.length * (gs.length + 1)) + 1) sn (List.replicate (p.code.length * (gs.length + 1)) false) mm i = R)) (gs.length + 1) ?_ ?_
   ·exact ⟨0, rfl, hH, by omega, hR0⟩
   rintro mm fr st ⟨i, hfr, hH, hi, hfd⟩
   rw [hfr]
   clear hfr
   try generalize ixF_Bd fr = ee
   clear fr
   try refine qy ?_
   repeat refine qq ?_
   try generalize hK : SeqQ _ _ _ _ = K
   refine EvC.reg ?_
   refine qm ?_
   refine qm ?_
   refine qn ?_
   try simp only [List.length_map, List.length_append, List.length_cons, List.length_nil, List.length_set, List.length_replicate, List.length_reverse]
   refine qg ?_
   refine EvO.nil ?_
   try subst hK
   try refine qy ?_
   repeat refine qq ?_
   refine qc (fun h3 => ?_) (fun h3 => ?_) <;> try simp only [cs] at h3
   ·refine EvC.skip ?_
    try refine qy ?_
    obtain ⟨mo, rfl⟩ : ∃ m', mm = m' + 1 := ⟨mm - 1, by omega⟩
    try refine qy ?_
    repeat refine qq ?_
    refine EvC.block ?_
    try refine qy ?_
    repeat refine qq ?_
    try generalize hK : SeqQ _ _ _ _ = K
    refine EvC.reg ?_
    refine qp (o := 0) ?_
    refine ql hH at2 ?_
    refine qn ?_
    try simp only [List.length_map, List.length_append, List.length_cons, List.length_nil, List.length_set, List.length_replicate, List.length_reverse]
    refine qm ?_
    refine qn ?_
    try simp only [List.length_map, List.length_append, List.length_cons, List.length_nil, List.length_set, List.length_replicate, List.length_reverse]
    refine qA ?_
    refine EvO.mulZ (z := ((p.code.length * (gs.length + 1) : Nat) : Int)) rfl (ev rfl) (ev rfl) (by rw [show ((p.code.length : Nat) : Int) * (((gs.length : Nat) : Int) + 1) = ((p.code.length * (gs.length + 1) : Nat) : Int) by rw [Int.natCast_mul]; rfl]; exact wrap_nat (by simp only [maxN]; omega)) (by dsimp only [Fr.put, List.set_cons_succ, List.set_cons_zero] <;> rfl) ?_
    refine EvO.hmake (s := 1) hH rfl rfl rfl rfl rfl rfl rfl rfl (Nat.le_of_ble_eq_true rfl) (by omega) (fun _ => by dsimp only [Fr.put, List.set_cons_succ, List.set_cons_zero] <;> rfl) (fun k71 st hk71 hH => ?_)
    try dsimp only [u2, u1, u3, u4, setMany, u5, u6, D.cells, Nat.reduceAdd, insC, intC, boolC, tryC, capsC, noCaps, zeroCaps] at hH
    refine qm ?_
    refine EvO.nil ?_
    try subst hK
    try refine qy ?_
    repeat refine qq ?_
    try generalize hK : SeqQ _ _ _ _ = K
    refine EvC.reg ?_
    refine qp (o := 1) ?_
    refine ql hH at3 ?_
    refine qm ?_
    refine qr fun p75 hp75 => ?_
    refine qR ?_
    refine qm ?_
    refine EvO.hcall rfl rfl (hnone _) (by dsimp only [Fr.put, List.set_cons_succ, List.set_cons_zero] <;> rfl) ?_
    refine EvO.go (d := .agg (tryC ⟨sn, i, noCaps⟩)) (st1 := _) rfl rfl rfl (by dsimp only [Fr.put, List.set_cons_succ, List.set_cons_zero] <;> rfl) ?_
    refine qh (s := 12) (vs := [_]) hH fun k80 st hk80 hH => ?_
    try dsimp only [u2, u1, u3, u4, setMany, u5, u6, D.cells, Nat.reduceAdd, insC, intC, boolC, tryC, capsC, noCaps, zeroCaps] at hH
    refine qm ?_
    refine EvO.nil ?_
    try subst hK
    try refine qy ?_
    have hcl0 := List.count_le_length (a := false) (l := List.replicate (p.code.length * (gs.length + 1)) false)
    rw [List.length_replicate] at hcl0
    obtain ⟨Q, hQ0⟩ : ∃ Q, (dfsF (idxR gs.length) (stepS p.code gs pls) (3 * (p.code.length * (gs.length + 1)) + 1) (List.replicate (p.code.length * (gs.length + 1)) false) [⟨sn, i, noCaps⟩]).1 = Q := ⟨_, rfl⟩
    simp only [findR, hQ0] at hfd
    try refine qy ?_
    repeat refine qq ?_
    refine EvC.block ?_
    refine EvC.loop (fun mm fr st => ∃ (ld : D) (ar : List Bool) (stk : List Tr3), fr.clean = ⟨126, [ixF_Bd fr 0, .int .i64 (ru : Nat), ixF_Bd fr 2, .ptr k3 0 0, ixF_Bd fr 4, ixF_Bd fr 5, .ptr k6 0 0, .bool false, gotsD gs, .win k37 0 0 (gs.length + 1) 1, ixF_Bd fr 10, .int .i64 (i : Nat), .win k71 0 0 (p.code.length * (gs.length + 1)) 1, ld, ixF_Bd fr 14, ixF_Bd fr 15, ixF_Bd fr 16, ixF_Bd fr 17, ixF_Bd fr 18, ixF_Bd fr 19, ixF_Bd fr 20, ixF_Bd fr 21, ixF_Bd fr 22, ixF_Bd fr 23, ixF_Bd fr 24, ixF_Bd fr 25, ixF_Bd fr 26, ixF_Bd fr 27, ixF_Bd fr 28, ixF_Bd fr 29, ixF_Bd fr 30, ixF_Bd fr 31, ixF_Bd fr 32, ixF_Bd fr 33, ixF_Bd fr 34, ixF_Bd fr 35, ixF_Bd fr 36, ixF_Bd fr 37, ixF_Bd fr 38, ixF_Bd fr 39, ixF_Bd fr 40, ixF_Bd fr 41, ixF_Bd fr 42, ixF_Bd fr 43, ixF_Bd fr 44, ixF_Bd fr 45, ixF_Bd fr 46, ixF_Bd fr 47, ixF_Bd fr 48, ixF_Bd fr 49, ixF_Bd fr 50, ixF_Bd fr 51, ixF_Bd fr 52, ixF_Bd fr 53, ixF_Bd fr 54, ixF_Bd fr 55, ixF_Bd fr 56, ixF_Bd fr 57, ixF_Bd fr 58, ixF_Bd fr 59, ixF_Bd fr 60, ixF_Bd fr 61, ixF_Bd fr 62, ixF_Bd fr 63, ixF_Bd fr 64, ixF_Bd fr 65, ixF_Bd fr 66, ixF_Bd fr 67, ixF_Bd fr 68, ixF_Bd fr 69, ixF_Bd fr 70, ixF_Bd fr 71, ixF_Bd fr 72, ixF_Bd fr 73, ixF_Bd fr 74, ixF_Bd fr 75, ixF_Bd fr 76, ixF_Bd fr 77, ixF_Bd fr 78, ixF_Bd fr 79, ixF_Bd fr 80, ixF_Bd fr 81, ixF_Bd fr 82, ixF_Bd fr 83, ixF_Bd fr 84, ixF_Bd fr 85, ixF_Bd fr 86, ixF_Bd fr 87, ixF_Bd fr 88, ixF_Bd fr 89, ixF_Bd fr 90, ixF_Bd fr 91, ixF_Bd fr 92, ixF_Bd fr 93, ixF_Bd fr 94, ixF_Bd fr 95, ixF_Bd fr 96, ixF_Bd fr 97, ixF_Bd fr 98, ixF_Bd fr 99, ixF_Bd fr 100, ixF_Bd fr 101, ixF_Bd fr 102, ixF_Bd fr 103, ixF_Bd fr 104, ixF_Bd fr 105, ixF_Bd fr 106, ixF_Bd fr 107, ixF_Bd fr 108, ixF_Bd fr 109, ixF_Bd fr 110, ixF_Bd fr 111, ixF_Bd fr 112, ixF_Bd fr 113, ixF_Bd fr 114, ixF_Bd fr 115, ixF_Bd fr 116, ixF_Bd fr 117, ixF_Bd fr 118, ixF_Bd fr 119, ixF_Bd fr 120, ixF_Bd fr 121, ixF_Bd fr 122, ixF_Bd fr 123, ixF_Bd fr 124, ixF_Bd fr 125], []⟩ ∧ Has s0.bs.length S st [.lst ld 12 (stk.reverse.map tryC), .lst (.win k71 0 0 (p.code.length * (gs.length + 1)) 1) 1 (ar.map boolC), .lst (.win k37 0 0 (gs.length + 1) 1) 1 (pls.map intC), .box k6 (.mem 0 false (capsC zeroCaps)), .box k3 (.mem 0 false [p.cd, p.sd])] ∧ ((dfsF (idxR gs.length) (stepS p.code gs pls) mm ar stk).1 = Q) ∧ (3 * ar.count false + stk.length ≤ mm) ∧ (ar.length = p.code.length * (gs.length + 1)) ∧ (∀ v ∈ stk, okT p gs v) ∧ (mm ≤ 3 * (p.code.length * (gs.length + 1)) + 1)) (3 * (p.code.length * (gs.length + 1)) + 1) ?_ ?_
    ·exact ⟨_, List.replicate (p.code.length * (gs.length + 1)) false, [⟨sn, i, noCaps⟩], rfl, (by rw [List.map_replicate]; exact hH), hQ0, (by simp only [List.length_cons, List.length_nil]; omega), List.length_replicate, (by intro v hv; simp only [List.mem_cons, List.not_mem_nil, or_false] at hv; subst hv; exact ⟨by show sn < _; omega, by show i ≤ _; omega⟩), Nat.le_refl _⟩
    rintro mm fr st ⟨ld, ar, stk, hfr, hH, hd, hm, hal, hsk, hmm⟩
    rw [hfr]
    clear hfr
    try generalize ixF_Bd fr = ee
    clear fr
    try refine qy ?_
    rcases stk with _ | ⟨v, stk⟩
    ·try refine qy ?_
     repeat refine qq ?_
     try generalize hK : SeqQ _ _ _ _ = K
     refine EvC.reg ?_
     refine qm ?_
     refine qn ?_ (hR := hH.rows at0)
     try simp only [List.length_map, List.length_append, List.length_cons, List.length_nil, List.length_set, List.length_replicate, List.length_reverse]
     refine qg ?_
     refine EvO.nil ?_
     try subst hK
     try refine qy ?_
     repeat refine qq ?_
     refine EvC.cond (v := false) (by dsimp only [Fr.ev, Fr.get, nth, Go.V.look]; rfl) (fun h => by cases h) (fun _ => ?_)
     try refine qy ?_
     refine EvC.exit ?_
     try refine qy ?_
     have hfin : Q = none := by rw [← hd]; cases mm <;> rfl
     subst hfin
     simp only at hfd
     try refine qy ?_
     repeat refine qq ?_
     try generalize hK : SeqQ _ _ _ _ = K
     refine EvC.reg ?_
     refine qm ?_
     refine qA ?_
     refine qm ?_
     refine EvO.nil ?_
     try subst hK
     try refine qy ?_
     exact ⟨mo, by omega, ⟨i + 1, rfl, (hH.drop 2), by omega, hfd⟩⟩
    ·have hv := hsk v (List.mem_cons_self ..)
     obtain ⟨hv1, hv2⟩ := hv
     have hst2 : ∀ w ∈ stk, okT p gs w := fun w hw => hsk w (List.mem_cons_of_mem _ hw)
     simp only [List.length_cons] at hm
     obtain ⟨mm2, rfl⟩ : ∃ m', mm = m' + 1 := ⟨mm - 1, by omega⟩
     have hbd : v.pc * (gs.length + 1) + v.at_ < ar.length := by
      have h1 : (v.pc + 1) * (gs.length + 1) ≤ p.code.length * (gs.length + 1) := Nat.mul_le_mul_right _ (by omega)
      rw [Nat.add_mul, Nat.one_mul] at h1
      omega
     obtain ⟨b2, hb⟩ : ∃ b, ar[idxR gs.length v.pc v.at_]? = some b := ⟨ar[idxR gs.length v.pc v.at_]'hbd, List.getElem?_eq_getElem _⟩
     obtain ⟨ii, hii⟩ : ∃ x, p.code[v.pc]? = some x := ⟨p.code[v.pc]'hv1, List.getElem?_eq_getElem _⟩
     have hsok := fun l => step_ok (pl := pls) hR (t := v) ⟨hv1, hv2⟩ l
     have hr1 := try_last v stk
     have hr2 := bool_get hb
     have hr4 := ins_get hii
     obtain ⟨m, hm0⟩ : ∃ m, v.pc * (gs.length + 1) = m := ⟨_, rfl⟩
     have hix : idxR gs.length v.pc v.at_ = m + v.at_ := by unfold idxR; rw [hm0]
     have hmz : ((v.pc : Nat) : Int) * (((gs.length : Nat) : Int) + 1) = ((m : Nat) : Int) := by rw [← hm0, Int.natCast_mul]; rfl
     rw [hm0] at hbd
     rw [hix] at hr2
     try refine qy ?_
     repeat refine qq ?_
     try generalize hK : SeqQ _ _ _ _ = K
     refine EvC.reg ?_
     refine qm ?_
     refine qn ?_ (hR := hH.rows at0)
     try simp only [List.length_map, List.length_append, List.length_cons, List.length_nil, List.length_set, List.length_replicate, List.length_reverse]
     refine qg ?_
     refine EvO.nil ?_
     try subst hK
     try refine qy ?_
     repeat refine qq ?_
     refine EvC.cond (v := true) (by dsimp only [Fr.ev, Fr.get, nth, Go.V.look]; simp) (fun _ => ?_) (fun h => by cases h)
     try refine qy ?_
     refine EvC.skip ?_
     try refine qy ?_
     repeat refine qq ?_
     refine EvC.block ?_
     try refine qy ?_
     repeat refine qq ?_
     try generalize hK : SeqQ _ _ _ _ = K
     refine EvC.reg ?_
     refine qm ?_
     refine qm ?_
     refine qn ?_ (hR := hH.rows at0)
     try simp only [List.length_map, List.length_append, List.length_cons, List.length_nil, List.length_set, List.length_replicate, List.length_reverse]
     refine EvO.subZ (z := ((stk.length : Nat) : Int)) rfl (ev rfl) (ev rfl) (by (try simp only [List.length_reverse, List.length_cons, List.length_nil, List.length_append, List.length_map, List.length_set]); rw [wrap_i64 (by omega) (by omega)]; omega) (by dsimp only [Fr.put, List.set_cons_succ, List.set_cons_zero] <;> rfl) ?_
     refine qi hH at0 fun p88 hp88 => ?_
     refine EvO.oloadS hH rfl (ev rfl) (by assumption) (by exact at0) (by assumption) rfl (by dsimp only [Fr.put, List.set_cons_succ, List.set_cons_zero] <;> rfl) ?_
     refine qa hH fun k14 st hk14 hH => ?_
     try dsimp only [u2, u1, u3, u4, setMany, u5, u6, D.cells, Nat.reduceAdd, insC, intC, boolC, tryC, capsC, noCaps, zeroCaps] at hH
     refine qS hH at0 fun st hH => ?_
     try dsimp only [u2, u1, u3, u4, setMany, u5, u6, D.cells, Nat.reduceAdd, insC, intC, boolC, tryC, capsC, noCaps, zeroCaps] at hH
     refine EvO.nil ?_
     try subst hK
     try refine qy ?_
     repeat refine qq ?_
     try generalize hK : SeqQ _ _ _ _ = K
     refine EvC.reg ?_
     refine qm ?_
     refine qm ?_
     refine qn ?_ (hR := hH.rows at1)
     try simp only [List.length_map, List.length_append, List.length_cons, List.length_nil, List.length_set, List.length_replicate, List.length_reverse]
     refine EvO.subZ (z := ((stk.length : Nat) : Int)) rfl (ev rfl) (ev rfl) (by (try simp only [List.length_reverse, List.length_cons, List.length_nil, List.length_append, List.length_map, List.length_set]); rw [wrap_i64 (by omega) (by omega)]; omega) (by dsimp only [Fr.put, List.set_cons_succ, List.set_cons_zero] <;> rfl) ?_
     refine EvO.oslice hH rfl (ev rfl) (by exact at1) rfl rfl (bounds_to (by simp only [List.length_map, List.length_reverse, List.length_cons, List.length_append, List.length_nil, List.length_take, List.length_drop, List.length_set, List.length_replicate]; omega)) ⟨(by omega), (by simp only [List.length_map, List.length_reverse, List.length_cons, List.length_append, List.length_nil, List.length_take, List.length_drop, List.length_set, List.length_replicate]; omega)⟩ (fun _ => by dsimp only [Fr.put, List.set_cons_succ, List.set_cons_zero] <;> rfl) (fun y94 hH => ?_)
     refine qm ?_
     refine EvO.nil ?_
     try subst hK
     try refine qy ?_
     dsimp only [List.set_cons_zero, List.set_cons_succ] at hH
     rw [try_pop] at hH
     try refine qy ?_
     repeat refine qq ?_
     try generalize hK : SeqQ _ _ _ _ = K
     refine EvC.reg ?_
     refine qm ?_
     refine qp (o := 0) ?_
     refine ql hH at0 ?_
     refine qm ?_
     refine qn ?_
     try simp only [List.length_map, List.length_append, List.length_cons, List.length_nil, List.length_set, List.length_replicate, List.length_reverse]
     refine qA ?_
     refine EvO.mulZ (z := ((m : Nat) : Int)) rfl (ev rfl) (ev rfl) (by rw [hmz]; exact wrap_nat (by simp only [maxN]; omega)) (by dsimp only [Fr.put, List.set_cons_succ, List.set_cons_zero] <;> rfl) ?_
     refine qp (o := 1) ?_
     refine ql hH at0 ?_
     refine EvO.addN rfl (ev rfl) (ev rfl) (by omega) (by dsimp only [Fr.put, List.set_cons_succ, List.set_cons_zero] <;> rfl) ?_
     refine qi hH at2 fun p105 hp105 => ?_
     refine qo hH at2 ?_
     refine EvO.nil ?_
     try subst hK
     try refine qy ?_
     cases b2 with
     | true =>
      try refine qy ?_
      repeat refine qq ?_
      refine EvC.cond (v := true) (by rfl) (fun _ => ?_) (fun h => by cases h)
      try refine qy ?_
      refine EvC.exit ?_
      try refine qy ?_
      simp only [dfsF, hb] at hd
      exact ⟨mm2, by omega, ⟨_, ar, stk, rfl, (hH.drop 1), hd, by omega, hal, hst2, by omega⟩⟩
     | false =>
      have hcnt := count_set hb
      have hset : (ar.set (idxR gs.length v.pc v.at_) true).map boolC = (ar.map boolC).set (m + v.at_) [.bool true] := by rw [List.map_set, hix]; rfl
      have hd2 : ∀ l, stepS p.code gs pls v = .more l → (dfsF (idxR gs.length) (stepS p.code gs pls) mm2 (ar.set (idxR gs.length v.pc v.at_) true) (l ++ stk)).1 = Q := by
       intro l hl
       simpa only [dfsF, hb, hl] using hd
      have hd3 : stepS p.code gs pls v = .found → Q = some v.c := by
       intro hl
       simp only [dfsF, hb, hl] at hd
       exact hd.symm
      have hm2 : ∀ l : List Tr3, l.length ≤ 2 → 3 * (ar.set (idxR gs.length v.pc v.at_) true).count false + (l ++ stk).length ≤ mm2 := by
       intro l hl
       rw [List.length_append]; omega
      have hsk2 : ∀ l, stepS p.code gs pls v = .more l → ∀ w ∈ l ++ stk, okT p gs w := by
       intro l hl w hw
       rcases List.mem_append.1 hw with hw | hw
       ·exact hsok l hl w hw
       ·exact hst2 w hw
      have hcases := shaped_cases (hR.sh v.pc ii hii)
      have hrd := (hp.i ii (List.mem_of_getElem? hii)).1
      have hra := hrd.arg s0.bs.length S
      have hrl := (hp.i ii (List.mem_of_getElem? hii)).2
      have hskl : stk.length ≤ 402653185 := by omega
      clear hd hsok hm
      obtain ⟨pc, at_, c⟩ := v
      obtain ⟨op, x, y, rd, rs⟩ := ii
      simp only at *
      try refine qy ?_
      repeat refine qq ?_
      refine EvC.cond (v := false) (by rfl) (fun h => by cases h) (fun _ => ?_)
      try refine qy ?_
      refine EvC.skip ?_
      try refine qy ?_
      repeat refine qq ?_
      try generalize hK : SeqQ _ _ _ _ = K
      refine EvC.reg ?_
      refine qm ?_
      refine qp (o := 0) ?_
      refine ql hH at0 ?_
      refine qm ?_
      refine qn ?_
      try simp only [List.length_map, List.length_append, List.length_cons, List.length_nil, List.length_set, List.length_replicate, List.length_reverse]
      refine qA ?_
      refine EvO.mulZ (z := ((m : Nat) : Int)) rfl (ev rfl) (ev rfl) (by rw [hmz]; exact wrap_nat (by simp only [maxN]; omega)) (by dsimp only [Fr.put, List.set_cons_succ, List.set_cons_zero] <;> rfl) ?_
      refine qp (o := 1) ?_
      refine ql hH at0 ?_
      refine EvO.addN rfl (ev rfl) (ev rfl) (by omega) (by dsimp only [Fr.put, List.set_cons_succ, List.set_cons_zero] <;> rfl) ?_
      refine qi hH at2 fun p117 hp117 => ?_
      refine EvO.ostore hH rfl (ev rfl) (ev rfl) (by assumption) rfl rfl (by exact at2) (by assumption) (Nat.le_of_ble_eq_true rfl) (by exact .inl hF) (fun st hH => ?_)
      try dsimp only [u2, u1, u3, u4, setMany, u5, u6, D.cells, Nat.reduceAdd, insC, intC, boolC, tryC, capsC, noCaps, zeroCaps] at hH
      refine EvO.nil ?_
      try subst hK
      try refine qy ?_
      repeat refine qq ?_
      try generalize hK : SeqQ _ _ _ _ = K
      refine EvC.reg ?_
      refine qp (o := 0) ?_
      refine ql hH at5 ?_
      refine qp (o := 0) ?_
      refine ql hH at0 ?_
      refine qr fun p122 hp122 => ?_
      refine EvO.rloadS rfl (ev rfl) (by assumption) rfl (by dsimp only [Fr.put, List.set_cons_succ, List.set_cons_zero] <;> rfl) ?_
      refine qa hH fun k15 st hk15 hH => ?_
      try dsimp only [u2, u1, u3, u4, setMany, u5, u6, D.cells, Nat.reduceAdd, insC, intC, boolC, tryC, capsC, noCaps, zeroCaps] at hH
      refine qS hH at0 fun st hH => ?_
      try dsimp only [u2, u1, u3, u4, setMany, u5, u6, D.cells, Nat.reduceAdd, insC, intC, boolC, tryC, capsC, noCaps, zeroCaps] at hH
      refine EvO.nil ?_
      try subst hK
      try refine qy ?_
      repeat refine qq ?_
      try generalize hK : SeqQ _ _ _ _ = K
      refine EvC.reg ?_
      refine qp (o := 0) ?_
      refine ql hH at0 ?_
      refine EvO.nil ?_
      try subst hK
      try refine qy ?_
      repeat refine qq ?_
      refine EvC.block ?_
      try refine qy ?_
      repeat refine qq ?_
      try generalize hK : SeqQ _ _ _ _ = K
      refine EvC.reg ?_
      refine qg ?_
      refine qm ?_
      refine EvO.nil ?_
      try subst hK
      try refine qy ?_
      repeat refine qq ?_
      refine qc (fun h7 => ?_) (fun h7 => ?_) <;> try simp only [cs] at h7
      ·have hS : stepS p.code gs pls ⟨pc, at_, c⟩ = .found := by unfold stepS; simp only [hii]; rw [if_pos h7]
       have hQ := hd3 hS
       subst hQ
       simp only at hfd
       subst hfd
       try refine qy ?_
       repeat refine qq ?_
       try generalize hK : SeqQ _ _ _ _ = K
       refine EvC.reg ?_
       refine qp (o := 2) ?_
       refine EvO.hloadS (m := 10) hH rfl (ev rfl) (by exact at1) (by dsimp only [List.drop_succ_cons, List.drop_zero, List.take_succ_cons, List.take_zero, insC, intC, boolC, tryC, capsC, noCaps, zeroCaps] <;> rfl) rfl rfl (put_T rfl _) ?_
       refine qS hH at5 fun st hH => ?_
       try dsimp only [u2, u1, u3, u4, setMany, u5, u6, D.cells, Nat.reduceAdd, insC, intC, boolC, tryC, capsC, noCaps, zeroCaps] at hH
       refine qm ?_
       refine EvO.nil ?_
       try subst hK
       try refine qy ?_
       refine EvC.ret ⟨fun i h => (by cases h), _, hH.resCellT rfl at5 rfl rfl, leave_ro (by simp) hSb hH rfl⟩
      ·try refine qy ?_
       repeat refine qq ?_
       try generalize hK : SeqQ _ _ _ _ = K
       refine EvC.reg ?_
       refine qg ?_
       refine qm ?_
       refine EvO.nil ?_
       try subst hK
       try refine qy ?_
       repeat refine qq ?_
       refine qc (fun h2 => ?_) (fun h2 => ?_) <;> try simp only [cs] at h2
       ·obtain ⟨_, ⟨hx0, hx1⟩, hy0, hy1⟩ := (hcases.resolve_left h7).resolve_right (by omega)
        obtain ⟨xn, rfl⟩ := Int.eq_ofNat_of_zero_le hx0
        obtain ⟨yn, rfl⟩ := Int.eq_ofNat_of_zero_le hy0
        have hS : stepS p.code gs pls ⟨pc, at_, c⟩ = .more [⟨xn, at_, c⟩, ⟨yn, at_, c⟩] := by unfold stepS; simp only [hii]; rw [if_neg h7, if_pos h2]; rfl
        try refine qy ?_
        repeat refine qq ?_
        try generalize hK : SeqQ _ _ _ _ = K
        refine EvC.reg ?_
        refine qm ?_
        refine qp (o := 2) ?_
        refine ql hH at0 ?_
        refine qp (o := 1) ?_
        refine ql hH at1 ?_
        refine qp (o := 2) ?_
        refine EvO.hloadS (m := 10) hH rfl (ev rfl) (by exact at1) (by dsimp only [List.drop_succ_cons, List.drop_zero, List.take_succ_cons, List.take_zero, insC, intC, boolC, tryC, capsC, noCaps, zeroCaps] <;> rfl) rfl rfl (put_T rfl _) ?_
        refine EvO.go (d := .agg (tryC ⟨yn, at_, c⟩)) (st1 := _) rfl rfl rfl (put_T rfl _) ?_
        refine qp (o := 1) ?_
        refine ql hH at0 ?_
        refine qp (o := 1) ?_
        refine ql hH at1 ?_
        refine qp (o := 2) ?_
        refine EvO.hloadS (m := 10) hH rfl (ev rfl) (by exact at1) (by dsimp only [List.drop_succ_cons, List.drop_zero, List.take_succ_cons, List.take_zero, insC, intC, boolC, tryC, capsC, noCaps, zeroCaps] <;> rfl) rfl rfl (put_T rfl _) ?_
        refine EvO.go (d := .agg (tryC ⟨xn, at_, c⟩)) (st1 := _) rfl rfl rfl (put_T rfl _) ?_
        refine qh (s := 12) (vs := [_, _]) hH fun k147 st hk147 hH => ?_
        try dsimp only [u2, u1, u3, u4, setMany, u5, u6, D.cells, Nat.reduceAdd, insC, intC, boolC, tryC, capsC, noCaps, zeroCaps] at hH
        refine qP hH at3 (hH.rows at0) fun x148 st hH => ?_
        try dsimp only [u2, u1, u3, u4, setMany, u5, u6, D.cells, Nat.reduceAdd, insC, intC, boolC, tryC, capsC, noCaps, zeroCaps] at hH
        refine qm ?_
        refine EvO.nil ?_
        try subst hK
        try refine qy ?_
        have hrv : ((([⟨xn, at_, c⟩, ⟨yn, at_, c⟩] : List Tr3) ++ stk).reverse.map tryC) = stk.reverse.map tryC ++ [tryC ⟨yn, at_, c⟩, tryC ⟨xn, at_, c⟩] := by simp
        exact ⟨mm2, by omega, ⟨_, _, [⟨xn, at_, c⟩, ⟨yn, at_, c⟩] ++ stk, rfl, (by rw [hset, hrv]; exact hH.drop 3), (hd2 _ hS), (hm2 _ (by simp)), by rw [List.length_set]; exact hal, (hsk2 _ hS), by omega⟩⟩
       ·try refine qy ?_
        repeat refine qq ?_
        try generalize hK : SeqQ _ _ _ _ = K
        refine EvC.reg ?_
        refine qg ?_
        refine qm ?_
        refine EvO.nil ?_
        try subst hK
        try refine qy ?_
        repeat refine qq ?_
        refine qc (fun h3 => ?_) (fun h3 => ?_) <;> try simp only [cs] at h3
        ·obtain ⟨_, hx0, hx1⟩ := ((hcases.resolve_left h7).resolve_left (by omega)).resolve_right (by omega)
         obtain ⟨xn, rfl⟩ := Int.eq_ofNat_of_zero_le hx0
         have hS : stepS p.code gs pls ⟨pc, at_, c⟩ = .more [⟨xn, at_, c⟩] := by unfold stepS; simp only [hii]; rw [if_neg h7, if_neg h2, if_pos h3]; rfl
         try refine qy ?_
         repeat refine qq ?_
         try generalize hK : SeqQ _ _ _ _ = K
         refine EvC.reg ?_
         refine qm ?_
         refine qp (o := 1) ?_
         refine ql hH at0 ?_
         refine qp (o := 1) ?_
         refine ql hH at1 ?_
         refine qp (o := 2) ?_
         refine EvO.hloadS (m := 10) hH rfl (ev rfl) (by exact at1) (by dsimp only [List.drop_succ_cons, List.drop_zero, List.take_succ_cons, List.take_zero, insC, intC, boolC, tryC, capsC, noCaps, zeroCaps] <;> rfl) rfl rfl (put_T rfl _) ?_
         refine EvO.go (d := .agg (tryC ⟨xn, at_, c⟩)) (st1 := _) rfl rfl rfl (put_T rfl _) ?_
         refine qh (s := 12) (vs := [_]) hH fun k159 st hk159 hH => ?_
         try dsimp only [u2, u1, u3, u4, setMany, u5, u6, D.cells, Nat.reduceAdd, insC, intC, boolC, tryC, capsC, noCaps, zeroCaps] at hH
         refine qP hH at3 (hH.rows at0) fun x160 st hH => ?_
         try dsimp only [u2, u1, u3, u4, setMany, u5, u6, D.cells, Nat.reduceAdd, insC, intC, boolC, tryC, capsC, noCaps, zeroCaps] at hH
         refine qm ?_
         refine EvO.nil ?_
         try subst hK
         try refine qy ?_
         have hrv : ((([⟨xn, at_, c⟩] : List Tr3) ++ stk).reverse.map tryC) = stk.reverse.map tryC ++ [tryC ⟨xn, at_, c⟩] := by simp
         exact ⟨mm2, by omega, ⟨_, _, [⟨xn, at_, c⟩] ++ stk, rfl, (by rw [hset, hrv]; exact hH.drop 3), (hd2 _ hS), (hm2 _ (by simp)), by rw [List.length_set]; exact hal, (hsk2 _ hS), by omega⟩⟩
        ·try refine qy ?_
         repeat refine qq ?_
         try generalize hK : SeqQ _ _ _ _ = K
         refine EvC.reg ?_
         refine qg ?_
         refine qm ?_
         refine EvO.nil ?_
         try subst hK
         try refine qy ?_
         repeat refine qq ?_
         refine qc (fun h4 => ?_) (fun h4 => ?_) <;> try simp only [cs] at h4
         ·obtain ⟨_, hpc1, hx0, hx1⟩ := (((hcases.resolve_left h7).resolve_left (by omega)).resolve_left (by omega)).resolve_right (by omega)
          obtain ⟨xn, rfl⟩ := Int.eq_ofNat_of_zero_le hx0
          obtain ⟨pv0, hpv⟩ : ∃ v, pls[at_]? = some v := ⟨pls[at_]'(by omega), List.getElem?_eq_getElem _⟩
          have hr5 := int_get hpv
          have hS : stepS p.code gs pls ⟨pc, at_, c⟩ = .more [⟨pc + 1, at_, setC c xn pv0⟩] := by unfold stepS; simp only [hii]; rw [if_neg h7, if_neg h2, if_neg h3, if_pos h4]; simp [List.getD_eq_getElem?_getD, hpv]
          try refine qy ?_
          repeat refine qq ?_
          try generalize hK : SeqQ _ _ _ _ = K
          refine EvC.reg ?_
          refine qp (o := 1) ?_
          refine ql hH at0 ?_
          refine qm ?_
          refine qp (o := 1) ?_
          refine ql hH at1 ?_
          refine qi hH at4 fun p168 hp168 => ?_
          refine qo hH at4 ?_
          refine qp (o := 2) ?_
          refine EvO.harr (m := 10) (s := 1) (i := xn) (o := 2 + xn) rfl (ev rfl) (ev rfl) rfl rfl (by omega) (by omega) (put_T rfl _) ?_
          refine EvO.hstore hH rfl (ev rfl) (ev rfl) rfl (by exact rfl) at1 (by show 2 + xn + 1 ≤ 12; omega) (.inl hF) (fun st hH => ?_)
          change Has _ _ _ (_ :: .box k14 (.mem 0 false (setMany (_ :: _ :: capsC c) (2 + xn) [.int .i64 pv0])) :: _) at hH
          rw [set_caps (by omega)] at hH
          refine EvO.nil ?_
          try subst hK
          try refine qy ?_
          dsimp only [capsC] at hH
          try refine qy ?_
          repeat refine qq ?_
          try generalize hK : SeqQ _ _ _ _ = K
          refine EvC.reg ?_
          refine qm ?_
          refine qp (o := 0) ?_
          refine ql hH at1 ?_
          refine qA ?_
          refine qp (o := 1) ?_
          refine ql hH at1 ?_
          refine qp (o := 2) ?_
          refine EvO.hloadS (m := 10) hH rfl (ev rfl) (by exact at1) (by dsimp only [List.drop_succ_cons, List.drop_zero, List.take_succ_cons, List.take_zero, insC, intC, boolC, tryC, capsC, noCaps, zeroCaps] <;> rfl) rfl rfl (put_T rfl _) ?_
          refine EvO.go (d := .agg (tryC ⟨pc + 1, at_, setC c xn pv0⟩)) (st1 := _) rfl rfl rfl (put_T rfl _) ?_
          refine qh (s := 12) (vs := [_]) hH fun k181 st hk181 hH => ?_
          try dsimp only [u2, u1, u3, u4, setMany, u5, u6, D.cells, Nat.reduceAdd, insC, intC, boolC, tryC, capsC, noCaps, zeroCaps] at hH
          refine qP hH at3 (hH.rows at0) fun x182 st hH => ?_
          try dsimp only [u2, u1, u3, u4, setMany, u5, u6, D.cells, Nat.reduceAdd, insC, intC, boolC, tryC, capsC, noCaps, zeroCaps] at hH
          refine qm ?_
          refine EvO.nil ?_
          try subst hK
          try refine qy ?_
          have hrv : ((([⟨pc + 1, at_, setC c xn pv0⟩] : List Tr3) ++ stk).reverse.map tryC) = stk.reverse.map tryC ++ [tryC ⟨pc + 1, at_, setC c xn pv0⟩] := by simp
          exact ⟨mm2, by omega, ⟨_, _, [⟨pc + 1, at_, setC c xn pv0⟩] ++ stk, rfl, (by rw [hset, hrv]; exact hH.drop 3), (hd2 _ hS), (hm2 _ (by simp)), by rw [List.length_set]; exact hal, (hsk2 _ hS), by omega⟩⟩
         ·try refine qy ?_
          repeat refine qq ?_
          try generalize hK : SeqQ _ _ _ _ = K
          refine EvC.reg ?_
          refine qg ?_
          refine qm ?_
          refine EvO.nil ?_
          try subst hK
          try refine qy ?_
          repeat refine qq ?_
          refine qc (fun h5 => ?_) (fun h5 => ?_) <;> try simp only [cs] at h5
          ·try refine qy ?_
           repeat refine qq ?_
           try generalize hK : SeqQ _ _ _ _ = K
           refine EvC.reg ?_
           refine qp (o := 1) ?_
           refine ql hH at1 ?_
           refine qg ?_
           refine EvO.nil ?_
           try subst hK
           try refine qy ?_
           by_cases ha : at_ = 0
           ·subst ha
            have hS : stepS p.code gs pls ⟨pc, 0, c⟩ = .more [⟨pc + 1, 0, c⟩] := by unfold stepS; simp only [hii]; rw [if_neg h7, if_neg h2, if_neg h3, if_neg h4, if_pos h5]; rfl
            try refine qy ?_
            repeat refine qq ?_
            refine EvC.cond (v := true) (by dsimp only [Fr.ev, Fr.get, nth, Go.V.look]; rfl) (fun _ => ?_) (fun h => by cases h)
            try refine qy ?_
            repeat refine qq ?_
            try generalize hK : SeqQ _ _ _ _ = K
            refine EvC.reg ?_
            refine qm ?_
            refine qp (o := 0) ?_
            refine ql hH at1 ?_
            refine qA ?_
            refine qp (o := 1) ?_
            refine ql hH at1 ?_
            refine qp (o := 2) ?_
            refine EvO.hloadS (m := 10) hH rfl (ev rfl) (by exact at1) (by dsimp only [List.drop_succ_cons, List.drop_zero, List.take_succ_cons, List.take_zero, insC, intC, boolC, tryC, capsC, noCaps, zeroCaps] <;> rfl) rfl rfl (put_T rfl _) ?_
            refine EvO.go (d := .agg (tryC ⟨pc + 1, 0, c⟩)) (st1 := _) rfl rfl rfl (put_T rfl _) ?_
            refine qh (s := 12) (vs := [_]) hH fun k197 st hk197 hH => ?_
            try dsimp only [u2, u1, u3, u4, setMany, u5, u6, D.cells, Nat.reduceAdd, insC, intC, boolC, tryC, capsC, noCaps, zeroCaps] at hH
            refine qP hH at3 (hH.rows at0) fun x198 st hH => ?_
            try dsimp only [u2, u1, u3, u4, setMany, u5, u6, D.cells, Nat.reduceAdd, insC, intC, boolC, tryC, capsC, noCaps, zeroCaps] at hH
            refine qm ?_
            refine EvO.nil ?_
            try subst hK
            try refine qy ?_
            have hrv : ((([⟨pc + 1, 0, c⟩] : List Tr3) ++ stk).reverse.map tryC) = stk.reverse.map tryC ++ [tryC ⟨pc + 1, 0, c⟩] := by simp
            exact ⟨mm2, by omega, ⟨_, _, [⟨pc + 1, 0, c⟩] ++ stk, rfl, (by rw [hset, hrv]; exact hH.drop 3), (hd2 _ hS), (hm2 _ (by simp)), by rw [List.length_set]; exact hal, (hsk2 _ hS), by omega⟩⟩
           ·have hS : stepS p.code gs pls ⟨pc, at_, c⟩ = .more [] := by unfold stepS; simp only [hii]; rw [if_neg h7, if_neg h2, if_neg h3, if_neg h4, if_pos h5, if_neg ha]
            try refine qy ?_
            repeat refine qq ?_
            refine EvC.cond (v := false) (by dsimp only [Fr.ev, Fr.get, nth, Go.V.look]; simp; omega) (fun h => by cases h) (fun _ => ?_)
            try refine qy ?_
            refine EvC.skip ?_
            try refine qy ?_
            exact ⟨mm2, by omega, ⟨_, _, [] ++ stk, rfl, (by rw [hset]; exact hH.drop 2), (hd2 _ hS), (hm2 _ (by simp)), by rw [List.length_set]; exact hal, (hsk2 _ hS), by omega⟩⟩
          ·try refine qy ?_
           repeat refine qq ?_
           try generalize hK : SeqQ _ _ _ _ = K
           refine EvC.reg ?_
           refine qg ?_
           refine qm ?_
           refine EvO.nil ?_
           try subst hK
           try refine qy ?_
           repeat refine qq ?_
           refine qc (fun h6 => ?_) (fun h6 => ?_) <;> try simp only [cs] at h6
           ·try refine qy ?_
            repeat refine qq ?_
            try generalize hK : SeqQ _ _ _ _ = K
            refine EvC.reg ?_
            refine qp (o := 1) ?_
            refine ql hH at1 ?_
            refine qm ?_
            refine qn ?_
            try simp only [List.length_map, List.length_append, List.length_cons, List.length_nil, List.length_set, List.length_replicate, List.length_reverse]
            refine qg ?_
            refine EvO.nil ?_
            try subst hK
            try refine qy ?_
            by_cases ha : at_ = gs.length
            ·have hS : stepS p.code gs pls ⟨pc, at_, c⟩ = .more [⟨pc + 1, at_, c⟩] := by unfold stepS; simp only [hii]; rw [if_neg h7, if_neg h2, if_neg h3, if_neg h4, if_neg h5, if_pos h6, if_pos ha]
             try refine qy ?_
             repeat refine qq ?_
             refine EvC.cond (v := true) (by dsimp only [Fr.ev, Fr.get, nth, Go.V.look]; rw [ha]; simp) (fun _ => ?_) (fun h => by cases h)
             try refine qy ?_
             repeat refine qq ?_
             try generalize hK : SeqQ _ _ _ _ = K
             refine EvC.reg ?_
             refine qm ?_
             refine qp (o := 0) ?_
             refine ql hH at1 ?_
             refine qA ?_
             refine qp (o := 1) ?_
             refine ql hH at1 ?_
             refine qp (o := 2) ?_
             refine EvO.hloadS (m := 10) hH rfl (ev rfl) (by exact at1) (by dsimp only [List.drop_succ_cons, List.drop_zero, List.take_succ_cons, List.take_zero, insC, intC, boolC, tryC, capsC, noCaps, zeroCaps] <;> rfl) rfl rfl (put_T rfl _) ?_
             refine EvO.go (d := .agg (tryC ⟨pc + 1, at_, c⟩)) (st1 := _) rfl rfl rfl (put_T rfl _) ?_
             refine qh (s := 12) (vs := [_]) hH fun k215 st hk215 hH => ?_
             try dsimp only [u2, u1, u3, u4, setMany, u5, u6, D.cells, Nat.reduceAdd, insC, intC, boolC, tryC, capsC, noCaps, zeroCaps] at hH
             refine qP hH at3 (hH.rows at0) fun x216 st hH => ?_
             try dsimp only [u2, u1, u3, u4, setMany, u5, u6, D.cells, Nat.reduceAdd, insC, intC, boolC, tryC, capsC, noCaps, zeroCaps] at hH
             refine qm ?_
             refine EvO.nil ?_
             try subst hK
             try refine qy ?_
             have hrv : ((([⟨pc + 1, at_, c⟩] : List Tr3) ++ stk).reverse.map tryC) = stk.reverse.map tryC ++ [tryC ⟨pc + 1, at_, c⟩] := by simp
             exact ⟨mm2, by omega, ⟨_, _, [⟨pc + 1, at_, c⟩] ++ stk, rfl, (by rw [hset, hrv]; exact hH.drop 3), (hd2 _ hS), (hm2 _ (by simp)), by rw [List.length_set]; exact hal, (hsk2 _ hS), by omega⟩⟩
            ·have hS : stepS p.code gs pls ⟨pc, at_, c⟩ = .more [] := by unfold stepS; simp only [hii]; rw [if_neg h7, if_neg h2, if_neg h3, if_neg h4, if_neg h5, if_pos h6, if_neg ha]
             try refine qy ?_
             repeat refine qq ?_
             refine EvC.cond (v := false) (by dsimp only [Fr.ev, Fr.get, nth, Go.V.look]; simp; omega) (fun h => by cases h) (fun _ => ?_)
             try refine qy ?_
             refine EvC.skip ?_
             try refine qy ?_
             exact ⟨mm2, by omega, ⟨_, _, [] ++ stk, rfl, (by rw [hset]; exact hH.drop 2), (hd2 _ hS), (hm2 _ (by simp)), by rw [List.length_set]; exact hal, (hsk2 _ hS), by omega⟩⟩
           ·have h1 : op = 1 := by omega
            have hno : ∀ b, stepS p.code gs pls ⟨pc, at_, c⟩ = .more b ↔ (.more (if at_ < gs.length ∧ hasS rs ((gs.getD at_ (0, 0)).1 : Nat) = true then [⟨pc + 1, at_ + 1, c⟩] else []) : Res) = .more b := by
             intro b; unfold stepS; simp only [hii]; rw [if_neg h7, if_neg h2, if_neg h3, if_neg h4, if_neg h5, if_neg h6]
            try refine qy ?_
            repeat refine qq ?_
            try generalize hK : SeqQ _ _ _ _ = K
            refine EvC.reg ?_
            refine qg ?_
            refine qm ?_
            refine EvO.nil ?_
            try subst hK
            try refine qy ?_
            repeat refine qq ?_
            refine EvC.cond (v := true) (by dsimp only [Fr.ev, Fr.get, nth, Go.V.look]; simp [h1]) (fun _ => ?_) (fun h => by cases h)
            try refine qy ?_
            by_cases ha : at_ < gs.length
            ·obtain ⟨g, hg⟩ : ∃ g, gs[at_]? = some g := ⟨gs[at_]'ha, List.getElem?_eq_getElem _⟩
             have hr1 : (gs.map gotC)[at_]? = some (gotC g) := by rw [List.getElem?_map, hg]; rfl
             have hgd : gs.getD at_ (0, 0) = g := by rw [List.getD_eq_getElem?_getD, hg]; rfl
             have hg5 : decide ((at_ : Int) < (gs.length : Nat)) = true := by rw [decide_eq_true]; simp; omega
             rw [hgd] at hno
             try refine qy ?_
             repeat refine qq ?_
             refine EvC.cutT 234 (.bool (hasS rs (g.1 : Nat))) [] ?_ (fun ff tmp htmp => ?_)
             ·refine qp (o := 1) ?_
              refine ql hH at1 ?_
              refine qm ?_
              refine qn ?_
              try simp only [List.length_map, List.length_append, List.length_cons, List.length_nil, List.length_set, List.length_replicate, List.length_reverse]
              refine qg ?_
              refine qm ?_
              refine qp (o := 3) ?_ (hg := wi hg5)
              refine ql hH at0 ?_ (hg := wi hg5)
              refine qm ?_ (hg := wi hg5)
              refine qp (o := 1) ?_ (hg := wi hg5)
              refine ql hH at1 ?_ (hg := wi hg5)
              refine qr (fun p230 hp230 => ?_) (hg := wi hg5)
              refine qf (fo := 0) (fun p231 hp231 => ?_) (hg := wi hg5)
              refine qR ?_ (hg := wi hg5)
              refine EvO.hcall (wantD_is rfl rfl rfl hg5) rfl (refHas_ev (hra.rows hH) (by omega)) (put_T rfl _) ?_
              refine qt hg5 ?_
              refine EvO.nil (leafT ?_ ?_)
              ·try dsimp only [setW, List.foldl, nth, u2, u1]
               all_goals (first | rfl | simp)
              ·try dsimp only [Fr.putO, Fr.put, Fr.clean, Fr.ev, Fr.get, nth, Go.V.look, u1, u2, v1, v2, v3, v4, v5, v6, v7, List.length, u3, u4, Nat.reduceSub, Nat.reduceAdd, List.map]
               all_goals (first | rfl | (simp [hg5]; done) | (simp_all; done) | (simp [hg5]; omega) | (simp_all; omega))
             try dsimp only [setW, List.foldl, nth, u2, u1]
             try dsimp only [Fr.putO, Fr.put, Fr.clean, Fr.ev, Fr.get, nth, Go.V.look, u1, u2, v1, v2, v3, v4, v5, v6, v7, List.length, u3, u4, Nat.reduceSub, Nat.reduceAdd, List.map]
             try refine qy ?_
             repeat refine qq ?_
             refine qc (fun hh => ?_) (fun hh => ?_) <;> try simp only [cs] at hh
             ·have hS := (hno _).2 (by rw [if_pos ⟨ha, hh⟩])
              try refine qy ?_
              repeat refine qq ?_
              try generalize hK : SeqQ _ _ _ _ = K
              refine EvC.reg ?_
              refine qm ?_
              refine qp (o := 0) ?_
              refine ql hH at1 ?_
              refine qA ?_
              refine qp (o := 1) ?_
              refine ql hH at1 ?_
              refine qA ?_
              refine qp (o := 2) ?_
              refine EvO.hloadS (m := 10) hH rfl (ev rfl) (by exact at1) (by dsimp only [List.drop_succ_cons, List.drop_zero, List.take_succ_cons, List.take_zero, insC, intC, boolC, tryC, capsC, noCaps, zeroCaps] <;> rfl) rfl rfl (put_T rfl _) ?_
              refine EvO.go (d := .agg (tryC ⟨pc + 1, at_ + 1, c⟩)) (st1 := _) rfl rfl rfl (put_T rfl _) ?_
              refine qh (s := 12) (vs := [_]) hH fun k245 st hk245 hH => ?_
              try dsimp only [u2, u1, u3, u4, setMany, u5, u6, D.cells, Nat.reduceAdd, insC, intC, boolC, tryC, capsC, noCaps, zeroCaps] at hH
              refine qP hH at3 (hH.rows at0) fun x246 st hH => ?_
              try dsimp only [u2, u1, u3, u4, setMany, u5, u6, D.cells, Nat.reduceAdd, insC, intC, boolC, tryC, capsC, noCaps, zeroCaps] at hH
              refine qm ?_
              refine EvO.nil ?_
              try subst hK
              try refine qy ?_
              have hrv : ((([⟨pc + 1, at_ + 1, c⟩] : List Tr3) ++ stk).reverse.map tryC) = stk.reverse.map tryC ++ [tryC ⟨pc + 1, at_ + 1, c⟩] := by simp
              exact ⟨mm2, by omega, ⟨_, _, [⟨pc + 1, at_ + 1, c⟩] ++ stk, rfl, (by rw [hset, hrv]; exact hH.drop 3), (hd2 _ hS), (hm2 _ (by simp)), by rw [List.length_set]; exact hal, (hsk2 _ hS), by omega⟩⟩
             ·have hS := (hno []).2 (by rw [if_neg (by rintro ⟨_, h⟩; rw [h] at hh; cases hh)])
              refine EvC.skip ?_
              try refine qy ?_
              exact ⟨mm2, by omega, ⟨_, _, [] ++ stk, rfl, (by rw [hset]; exact hH.drop 2), (hd2 _ hS), (hm2 _ (by simp)), by rw [List.length_set]; exact hal, (hsk2 _ hS), by omega⟩⟩
            ·have hg5 : decide ((at_ : Int) < (gs.length : Nat)) = false := by rw [decide_eq_false]; simp; omega
             try refine qy ?_
             repeat refine qq ?_
             refine EvC.cutT 234 (.bool false) [] ?_ (fun ff tmp htmp => ?_)
             ·refine qp (o := 1) ?_
              refine ql hH at1 ?_
              refine qm ?_
              refine qn ?_
              try simp only [List.length_map, List.length_append, List.length_cons, List.length_nil, List.length_set, List.length_replicate, List.length_reverse]
              refine qg ?_
              refine qm ?_
              refine qs ?_ (hg := wn hg5)
              refine qs ?_ (hg := wn hg5)
              refine qs ?_ (hg := wn hg5)
              refine qs ?_ (hg := wn hg5)
              refine qs ?_ (hg := wn hg5)
              refine qs ?_ (hg := wn hg5)
              refine qs ?_ (hg := wn hg5)
              refine qs ?_ (hg := wn hg5)
              refine qs ?_ (hg := wn hg5)
              refine qu hg5 ?_
              refine EvO.nil (leafT ?_ ?_)
              ·try dsimp only [setW, List.foldl, nth, u2, u1]
               all_goals (first | rfl | simp)
              ·try dsimp only [Fr.putO, Fr.put, Fr.clean, Fr.ev, Fr.get, nth, Go.V.look, u1, u2, v1, v2, v3, v4, v5, v6, v7, List.length, u3, u4, Nat.reduceSub, Nat.reduceAdd, List.map]
               all_goals (first | rfl | (simp [hg5]; done) | (simp_all; done) | (simp [hg5]; omega) | (simp_all; omega))
             try dsimp only [setW, List.foldl, nth, u2, u1]
             try dsimp only [Fr.putO, Fr.put, Fr.clean, Fr.ev, Fr.get, nth, Go.V.look, u1, u2, v1, v2, v3, v4, v5, v6, v7, List.length, u3, u4, Nat.reduceSub, Nat.reduceAdd, List.map]
             try refine qy ?_
             repeat refine qq ?_
             refine EvC.cond (v := false) (by assumption) (fun h => by cases h) (fun _ => ?_)
             try refine qy ?_
             refine EvC.skip ?_
             try refine qy ?_
             have hS := (hno []).2 (by rw [if_neg (fun h => ha h.1)])
             exact ⟨mm2, by omega, ⟨_, _, [] ++ stk, rfl, (by rw [hset]; exact hH.drop 2), (hd2 _ hS), (hm2 _ (by simp)), by rw [List.length_set]; exact hal, (hsk2 _ hS), by omega⟩⟩
   ·try refine qy ?_
    refine EvC.exit ?_
    try refine qy ?_
    repeat refine qq ?_
    try generalize hK : SeqQ _ _ _ _ = K
    refine EvC.reg ?_
    refine EvO.go (d := .agg (capsC zeroCaps)) (st1 := _) rfl rfl rfl (put_T rfl _) ?_
    refine qS hH at1 fun st hH => ?_
    try dsimp only [u2, u1, u3, u4, setMany, u5, u6, D.cells, Nat.reduceAdd, insC, intC, boolC, tryC, capsC, noCaps, zeroCaps] at hH
    refine qm ?_
    refine EvO.nil ?_
    try subst hK
    try refine qy ?_
    have hfin : R = none := by
     have : mm = 0 := by omega
     subst this
     rw [← hfd]; rfl
    rw [hfin]
    refine EvC.ret ⟨fun i h => (by cases h), _, hH.resCellT rfl at1 rfl rfl, leave_ro (by simp) hSb hH rfl⟩
end Go.Proofs.YtbdilgkfnacahaaGreat
