/-
 Programs: held against each other.
-/
import Derived.Test.YtbdilgkfnacahaaJm
namespace Go.Proofs.Ytbdilgkfnacahaa
open Go.V Go
set_option maxRecDepth 100000
set_option maxHeartbeats 4000000
set_option linter.unusedSimpArgs false
set_option linter.unusedVariables false

/-- what a frame holds at a slot -/
def ixF_Jn (fr : Go.V.Fr) (k : Nat) : Go.V.D := Go.V.nth .junk fr.loc k

abbrev Key := Int × Int × Int × List Rg
def keyI (i : PIns) : Key := (i.op, i.x, i.y, i.rs)
theorem slD_box {x : D} {s : Nat} {es : List (List D)} (h : SlD x s es) : x.box? = none := by
 rcases h with ⟨rfl, rfl⟩ | ⟨ds, rfl, rfl, h⟩ <;> rfl

theorem progs_ev {s0 : St} {p q : Pg} (hp : p.ok) (hq : q.ok) : Ev pv 16 [p.d, q.d] s0 (.bool (decide (p.starts = q.starts ∧ p.code.map keyI = q.code.map keyI))) s0 := by
 refine Ev.mk1 rfl fi16 rfl rfl rfl ?_
 dsimp only [List.cons_append, List.nil_append, List.length, Nat.reduceSub, Nat.reduceAdd, List.replicate_succ, List.replicate_zero]
 have hSb : (enterSt .ro s0).bs = s0.bs := rfl
 have hF : (enterSt .ro s0).flr ≤ s0.bs.length := Nat.le_refl _
 have hH : Has s0.bs.length (enterSt .ro s0) (enterSt .ro s0) [] := Has.start (Nat.le_refl _) (Nat.le_refl _)
 generalize enterSt .ro s0 = S at *
 have hc := hp.c.arg s0.bs.length S
 have hs := hp.s.arg s0.bs.length S
 have hlen := hp.cl
 have hsl0 := hp.sl
 have hc2 := hq.c.arg s0.bs.length S
 have hs2 := hq.s.arg s0.bs.length S
 have hqc := hq.c
 have hlen2 := hq.cl
 have hsl2 := hq.sl
 unfold Pg.d
 try refine qy ?_
 repeat refine qq ?_
 try generalize hK : SeqQ _ _ _ _ = K
 refine EvC.reg ?_
 refine qb hH fun k2 st hk2 hH => ?_
 try dsimp only [u2, u1, u3, u4, setMany, u5, u6, D.cells, Nat.reduceAdd, Pg.cs, insC, intC] at hH
 refine qb hH fun k3 st hk3 hH => ?_
 try dsimp only [u2, u1, u3, u4, setMany, u5, u6, D.cells, Nat.reduceAdd, Pg.cs, insC, intC] at hH
 refine qm ?_
 refine EvO.nil ?_
 try subst hK
 try refine qy ?_
 repeat refine qq ?_
 refine EvC.cutT 22 (.bool (((p.code.length : Int) != q.code.length) || !decide (p.starts = q.starts))) [] ?_ (fun ff tmp htmp => ?_)
 ·refine qp (o := 0) ?_
  refine ql hH at1 ?_
  refine qn ?_
  try simp only [List.length_map, List.length_append, List.length_cons, List.length_nil, List.length_set, List.length_replicate, List.length_reverse]
  refine qp (o := 0) ?_
  refine ql hH at0 ?_
  refine qn ?_
  try simp only [List.length_map, List.length_append, List.length_cons, List.length_nil, List.length_set, List.length_replicate, List.length_reverse]
  refine qg ?_
  refine qm ?_
  refine EvO.two 15 rfl (fun hg7 => ?_) (fun hg7 => ?_)
  ·refine qs ?_ (hg := wn hg7)
   refine qs ?_ (hg := wn hg7)
   refine qs ?_ (hg := wn hg7)
   refine qs ?_ (hg := wn hg7)
   refine qs ?_ (hg := wn hg7)
   refine qs ?_ (hg := wn hg7)
   refine qt hg7 ?_
   refine EvO.nil (leafT ?_ ?_)
   ·try dsimp only [setW, List.foldl, nth, u2, u1]
    all_goals (first | rfl | simp)
   ·try dsimp only [Fr.putO, Fr.put, Fr.clean, Fr.ev, Fr.get, nth, Go.V.look, u1, u2, v1, v2, v3, v4, v5, v6, v7, List.length, u3, u4, Nat.reduceSub, Nat.reduceAdd, List.map]
    all_goals (simp [hg7]; done)
  ·refine qp (o := 1) ?_ (hg := wi hg7)
   refine ql hH at1 ?_ (hg := wi hg7)
   refine qp (o := 1) ?_ (hg := wi hg7)
   refine ql hH at0 ?_ (hg := wi hg7)
   refine EvO.hcall (wantD_is rfl rfl rfl hg7) rfl (sameInt_ev (hs.rows hH) (hs2.rows hH) (by omega) (by omega)) (put_T rfl _) ?_
   refine qg ?_ (hg := wi hg7)
   refine qu hg7 ?_
   refine EvO.nil (leafT ?_ ?_)
   ·try dsimp only [setW, List.foldl, nth, u2, u1]
    all_goals (first | rfl | simp)
   ·try dsimp only [Fr.putO, Fr.put, Fr.clean, Fr.ev, Fr.get, nth, Go.V.look, u1, u2, v1, v2, v3, v4, v5, v6, v7, List.length, u3, u4, Nat.reduceSub, Nat.reduceAdd, List.map]
    all_goals (simp [hg7]; done)
 try dsimp only [setW, List.foldl, nth, u2, u1]
 try dsimp only [Fr.putO, Fr.put, Fr.clean, Fr.ev, Fr.get, nth, Go.V.look, u1, u2, v1, v2, v3, v4, v5, v6, v7, List.length, u3, u4, Nat.reduceSub, Nat.reduceAdd, List.map]
 try refine qy ?_
 repeat refine qq ?_
 refine qc (fun h0 => ?_) (fun h0 => ?_) <;> try simp only [cs] at h0
 ·rw [decide_eq_false (fun h => by
   have := congrArg List.length h.2
   simp only [List.length_map] at this
   rw [decide_eq_true h.1] at h0
   simp [this] at h0)]
  try refine qy ?_
  repeat refine qq ?_
  try generalize hK : SeqQ _ _ _ _ = K
  refine EvC.reg ?_
  refine qm ?_
  refine EvO.nil ?_
  try subst hK
  try refine qy ?_
  refine EvC.ret ⟨fun i h => (by cases h), _, rfl, leave_ro (by simp) hSb hH (rfl)⟩
 ·have h0 : p.code.length = q.code.length ∧ p.starts = q.starts := by simp at h0; exact ⟨by omega, h0.2⟩
  refine EvC.skip ?_
  try refine qy ?_
  repeat refine qq ?_
  try generalize hK : SeqQ _ _ _ _ = K
  refine EvC.reg ?_
  refine qm ?_
  refine EvO.nil ?_
  try subst hK
  try refine qy ?_
  repeat refine qq ?_
  refine EvC.block ?_
  refine EvC.loop (fun mm fr st => ∃ (i : Nat), fr.clean = ⟨8, [ixF_Jn fr 0, ixF_Jn fr 1, .ptr k2 0 0, .ptr k3 0 0, .bool false, .int .i64 (i : Nat), ixF_Jn fr 6, ixF_Jn fr 7], []⟩ ∧ Has s0.bs.length S st [.box k3 (.mem 0 false [q.cd, q.sd]), .box k2 (.mem 0 false [p.cd, p.sd])] ∧ (i + mm = p.code.length) ∧ ((p.code.map keyI).take i = (q.code.map keyI).take i)) (p.code.length) ?_ ?_
  ·exact ⟨0, rfl, hH, by omega, rfl⟩
  rintro mm fr st ⟨i, hfr, hH, hi, ht⟩
  rw [hfr]
  clear hfr
  try generalize ixF_Jn fr = ee
  clear fr
  try refine qy ?_
  repeat refine qq ?_
  try generalize hK : SeqQ _ _ _ _ = K
  refine EvC.reg ?_
  refine qm ?_
  refine qp (o := 0) ?_
  refine ql hH at1 ?_
  refine qn ?_
  try simp only [List.length_map, List.length_append, List.length_cons, List.length_nil, List.length_set, List.length_replicate, List.length_reverse]
  refine qg ?_
  refine EvO.nil ?_
  try subst hK
  try refine qy ?_
  repeat refine qq ?_
  refine qc (fun h1 => ?_) (fun h1 => ?_) <;> try simp only [cs] at h1
  ·refine EvC.skip ?_
   try refine qy ?_
   obtain ⟨a, ha⟩ : ∃ a, p.code[i]? = some a := ⟨p.code[i]'(by omega), List.getElem?_eq_getElem _⟩
   obtain ⟨b, hb⟩ : ∃ b, q.code[i]? = some b := ⟨q.code[i]'(by omega), List.getElem?_eq_getElem _⟩
   have hr1 := ins_get ha
   have hr2 := ins_get hb
   have hao := hp.i a (List.mem_of_getElem? ha)
   have hbo := hq.i b (List.mem_of_getElem? hb)
   have hrd1 := hao.1
   have hrd2 := hbo.1
   have hra1 := hrd1.arg s0.bs.length S
   have hra2 := hrd2.arg s0.bs.length S
   have hrl1 := hao.2
   have hrl2 := hbo.2
   have hka : (p.code.map keyI)[i]? = some (keyI a) := by rw [List.getElem?_map, ha]; rfl
   have hkb : (q.code.map keyI)[i]? = some (keyI b) := by rw [List.getElem?_map, hb]; rfl
   have href : refs [q.cd, q.sd] = 0 := by simp [refs, hq.c.ref, hq.s.ref]
   try refine qy ?_
   repeat refine qq ?_
   refine EvC.block ?_
   have hH0 := hH
   try refine qy ?_
   repeat refine qq ?_
   try generalize hK : SeqQ _ _ _ _ = K
   refine EvC.regY rfl ?_
   refine EvY.cons ?_
   refine qp (o := 0) ?_
   refine EvO.nil ⟨rfl, ?_⟩
   refine EvY.cons ?_
   refine ql hH at1 ?_
   refine EvO.nil ⟨rfl, ?_⟩
   refine EvY.cons ?_
   refine qm ?_
   refine EvO.nil ⟨rfl, ?_⟩
   refine EvY.cons ?_
   refine qr fun p33 hp33 => ?_
   refine EvO.nil ⟨rfl, ?_⟩
   refine EvY.cons ?_
   refine EvO.rloadS rfl (ev rfl) (by assumption) rfl (put_T rfl _) ?_
   refine EvO.nil ⟨rfl, ?_⟩
   refine EvY.cons ?_
   refine qp (o := 0) ?_
   refine EvO.nil ⟨rfl, ?_⟩
   refine EvY.cons ?_
   refine ql hH at0 ?_
   refine EvO.nil ⟨rfl, ?_⟩
   refine EvY.cons ?_
   refine qm ?_
   refine EvO.nil ⟨rfl, ?_⟩
   refine EvY.cons ?_
   refine EvO.pidx rfl rfl rfl hqc rfl rfl hr2 (put_T rfl _) (fun hp38 => ?_)
   refine EvO.nil ⟨rfl, ?_⟩
   refine EvY.cons ?_
   refine qR ?_
   refine EvO.nil ⟨rfl, ?_⟩
   refine EvY.cons ?_
   refine qa hH fun k6 st hk6 hH => ?_
   try dsimp only [u2, u1, u3, u4, setMany, u5, u6, D.cells, Nat.reduceAdd, Pg.cs, insC, intC] at hH
   refine EvO.nil ⟨rfl, ?_⟩
   refine EvY.cons ?_
   refine qa hH fun k7 st hk7 hH => ?_
   try dsimp only [u2, u1, u3, u4, setMany, u5, u6, D.cells, Nat.reduceAdd, Pg.cs, insC, intC] at hH
   refine EvO.nil ⟨rfl, ?_⟩
   refine EvY.cons ?_
   have hH1 := hH
   refine EvO.hstoreA hH rfl rfl rfl rfl (by exact rfl) (by exact at1) (by exact rfl) (by exact .inl hF) (fun st hH => ?_)
   dsimp only [List.set_cons_succ, List.set_cons_zero] at hH
   refine EvO.nil ⟨by exact Bool.and_eq_true_iff.2 ⟨chk_still rfl rfl rfl (hH1.at at2) (hH.at at2) (hH0.at at0) href, Bool.and_eq_true_iff.2 ⟨chk_still0 rfl rfl (slD_box hqc), Bool.and_eq_true_iff.2 ⟨chk_still0 rfl rfl rfl, rfl⟩⟩⟩, ?_⟩
   refine EvY.cons ?_
   refine qS hH at0 fun st hH => ?_
   try dsimp only [u2, u1, u3, u4, setMany, u5, u6, D.cells, Nat.reduceAdd, Pg.cs, insC, intC] at hH
   refine EvO.nil ⟨rfl, ?_⟩
   refine EvY.nil ?_
   try subst hK
   try refine qy ?_
   repeat refine qq ?_
   refine EvC.cutT 66 (.bool ((((a.op != b.op) || (a.x != b.x)) || (a.y != b.y)) || !decide (a.rs = b.rs))) [] ?_ (fun ff tmp htmp => ?_)
   ·refine qp (o := 0) ?_
    refine ql hH at1 ?_
    refine qp (o := 0) ?_
    refine ql hH at0 ?_
    refine qg ?_
    refine qm ?_
    refine EvO.two 45 rfl (fun hg5 => ?_) (fun hg5 => ?_)
    ·refine qs ?_ (hg := wn hg5)
     refine qs ?_ (hg := wn hg5)
     refine qs ?_ (hg := wn hg5)
     refine qs ?_ (hg := wn hg5)
     refine qs ?_ (hg := wn hg5)
     refine qt hg5 ?_
     refine qm ?_
     refine qs ?_
     refine qs ?_
     refine qs ?_
     refine qs ?_
     refine qs ?_
     refine qg ?_
     refine qm ?_
     refine qs ?_
     refine qs ?_
     refine qs ?_
     refine qs ?_
     refine qs ?_
     refine qs ?_
     refine qg ?_
     refine EvO.nil (leafT ?_ ?_)
     ·try dsimp only [setW, List.foldl, nth, u2, u1]
      all_goals (first | rfl | simp)
     ·try dsimp only [Fr.putO, Fr.put, Fr.clean, Fr.ev, Fr.get, nth, Go.V.look, u1, u2, v1, v2, v3, v4, v5, v6, v7, List.length, u3, u4, Nat.reduceSub, Nat.reduceAdd, List.map]
      all_goals (simp [hg5]; done)
    ·refine qp (o := 1) ?_ (hg := wi hg5)
     refine ql hH at1 ?_ (hg := wi hg5)
     refine qp (o := 1) ?_ (hg := wi hg5)
     refine ql hH at0 ?_ (hg := wi hg5)
     refine qg ?_ (hg := wi hg5)
     refine qu hg5 ?_
     refine qm ?_
     refine EvO.two 52 rfl (fun hg12 => ?_) (fun hg12 => ?_)
     ·refine qs ?_ (hg := wn hg12)
      refine qs ?_ (hg := wn hg12)
      refine qs ?_ (hg := wn hg12)
      refine qs ?_ (hg := wn hg12)
      refine qs ?_ (hg := wn hg12)
      refine qt hg12 ?_
      refine qm ?_
      refine qs ?_
      refine qs ?_
      refine qs ?_
      refine qs ?_
      refine qs ?_
      refine qs ?_
      refine qg ?_
      refine EvO.nil (leafT ?_ ?_)
      ·try dsimp only [setW, List.foldl, nth, u2, u1]
       all_goals (first | rfl | simp)
      ·try dsimp only [Fr.putO, Fr.put, Fr.clean, Fr.ev, Fr.get, nth, Go.V.look, u1, u2, v1, v2, v3, v4, v5, v6, v7, List.length, u3, u4, Nat.reduceSub, Nat.reduceAdd, List.map]
       all_goals (simp [hg5, hg12]; done)
     ·refine qp (o := 2) ?_ (hg := wi hg12)
      refine ql hH at1 ?_ (hg := wi hg12)
      refine qp (o := 2) ?_ (hg := wi hg12)
      refine ql hH at0 ?_ (hg := wi hg12)
      refine qg ?_ (hg := wi hg12)
      refine qu hg12 ?_
      refine qm ?_
      refine EvO.two 59 rfl (fun hg19 => ?_) (fun hg19 => ?_)
      ·refine qs ?_ (hg := wn hg19)
       refine qs ?_ (hg := wn hg19)
       refine qs ?_ (hg := wn hg19)
       refine qs ?_ (hg := wn hg19)
       refine qs ?_ (hg := wn hg19)
       refine qs ?_ (hg := wn hg19)
       refine qt hg19 ?_
       refine EvO.nil (leafT ?_ ?_)
       ·try dsimp only [setW, List.foldl, nth, u2, u1]
        all_goals (first | rfl | simp)
       ·try dsimp only [Fr.putO, Fr.put, Fr.clean, Fr.ev, Fr.get, nth, Go.V.look, u1, u2, v1, v2, v3, v4, v5, v6, v7, List.length, u3, u4, Nat.reduceSub, Nat.reduceAdd, List.map]
        all_goals (simp [hg5, hg12, hg19]; done)
      ·refine qp (o := 3) ?_ (hg := wi hg19)
       refine ql hH at1 ?_ (hg := wi hg19)
       refine qp (o := 3) ?_ (hg := wi hg19)
       refine ql hH at0 ?_ (hg := wi hg19)
       refine EvO.hcall (wantD_is rfl rfl rfl hg19) rfl (sameRange_ev (hra1.rows hH) (hra2.rows hH) (by omega) (by omega)) (put_T rfl _) ?_
       refine qg ?_ (hg := wi hg19)
       refine qu hg19 ?_
       refine EvO.nil (leafT ?_ ?_)
       ·try dsimp only [setW, List.foldl, nth, u2, u1]
        all_goals (first | rfl | simp)
       ·try dsimp only [Fr.putO, Fr.put, Fr.clean, Fr.ev, Fr.get, nth, Go.V.look, u1, u2, v1, v2, v3, v4, v5, v6, v7, List.length, u3, u4, Nat.reduceSub, Nat.reduceAdd, List.map]
        all_goals (simp [hg5, hg12, hg19]; done)
   try dsimp only [setW, List.foldl, nth, u2, u1]
   try dsimp only [Fr.putO, Fr.put, Fr.clean, Fr.ev, Fr.get, nth, Go.V.look, u1, u2, v1, v2, v3, v4, v5, v6, v7, List.length, u3, u4, Nat.reduceSub, Nat.reduceAdd, List.map]
   try refine qy ?_
   have hk : (keyI a = keyI b) ↔ ((((a.op != b.op) || (a.x != b.x)) || (a.y != b.y)) || !decide (a.rs = b.rs)) = false := by
    simp only [keyI, Prod.mk.injEq, Bool.or_eq_false_iff, bne_eq_false_iff_eq, Bool.not_eq_false', decide_eq_true_eq, and_assoc]
   try refine qy ?_
   repeat refine qq ?_
   refine qc (fun h2 => ?_) (fun h2 => ?_) <;> try simp only [cs] at h2
   ·try refine qy ?_
    repeat refine qq ?_
    try generalize hK : SeqQ _ _ _ _ = K
    refine EvC.reg ?_
    refine qm ?_
    refine EvO.nil ?_
    try subst hK
    try refine qy ?_
    rw [decide_eq_false (fun h => ne_of_get hka hkb (fun e => by rw [hk.1 e] at h2; cases h2) h.2)]
    refine EvC.ret ⟨fun i h => (by cases h), _, rfl, leave_ro (by simp) hSb hH (rfl)⟩
   ·refine EvC.skip ?_
    try refine qy ?_
    repeat refine qq ?_
    try generalize hK : SeqQ _ _ _ _ = K
    refine EvC.reg ?_
    refine qm ?_
    refine qA ?_
    refine qm ?_
    refine EvO.nil ?_
    try subst hK
    try refine qy ?_
    exact ⟨mm - 1, by omega, ⟨i + 1, rfl, (hH.drop 2), by omega, take_eq_step hka hkb ht (hk.2 h2)⟩⟩
  ·try refine qy ?_
   refine EvC.exit ?_
   try refine qy ?_
   repeat refine qq ?_
   try generalize hK : SeqQ _ _ _ _ = K
   refine EvC.reg ?_
   refine qm ?_
   refine EvO.nil ?_
   try subst hK
   try refine qy ?_
   rw [decide_eq_true ⟨h0.2, by rw [List.take_of_length_le (by simp; omega), List.take_of_length_le (by simp; omega)] at ht; exact ht⟩]
   refine EvC.ret ⟨fun i h => (by cases h), _, rfl, leave_ro (by simp) hSb hH (rfl)⟩
end Go.Proofs.Ytbdilgkfnacahaa
