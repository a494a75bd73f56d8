/-
 The search that goes back: a try that begins ahead of a rune.
-/
import Derived.Test.YtbdilgkfnacahaaGreatBa
namespace Go.Proofs.YtbdilgkfnacahaaGreat
open Go.V Go
set_option maxRecDepth 100000
set_option maxHeartbeats 4000000
set_option linter.unusedSimpArgs false
set_option linter.unusedVariables false

/-- what a frame holds at a slot -/
def ixF_Bb (fr : Go.V.Fr) (k : Nat) : Go.V.D := Go.V.nth .junk fr.loc k

/-- the search: idx: where a pair stands in the list of what was come to -/
def dfsF (idx : Nat → Nat → Nat) (stp : Tr3 → Res) : Nat → List Bool → List Tr3 → Option Cps × List Bool
 | 0, arr, _ => (none, arr)
 | _ + 1, arr, [] => (none, arr)
 | f + 1, arr, t :: stk => match arr[idx t.pc t.at_]? with
  | some false => match stp t with
   | .found => (some t.c, arr.set (idx t.pc t.at_) true)
   | .more l => dfsF idx stp f (arr.set (idx t.pc t.at_) true) (l ++ stk)
  | _ => dfsF idx stp f arr stk

theorem step_len (code : List PIns) (gs : List (Nat × Nat)) (pl : List Int) (t : Tr3) : ∀ l, stepS code gs pl t = .more l → l.length ≤ 2 := by
 intro l h
 unfold stepS at h
 split at h
 ·cases h; simp
 ·repeat' split at h
  all_goals (first | (cases h; done) | (cases h; simp; done) | (cases h; split <;> simp))

/-- a try that the search may have -/
def okT (p : Pg) (gs : List (Nat × Nat)) (t : Tr3) : Prop := t.pc < p.code.length ∧ t.at_ ≤ gs.length

theorem step_ok {p : Pg} {gs : List (Nat × Nat)} {pl : List Int} (hR : RightQ p) {t : Tr3} (ht : okT p gs t) : ∀ l, stepS p.code gs pl t = .more l → ∀ u ∈ l, okT p gs u := by
 intro l h u hu
 obtain ⟨h1, h2⟩ := ht
 obtain ⟨i, hi⟩ : ∃ i, p.code[t.pc]? = some i := ⟨p.code[t.pc]'h1, List.getElem?_eq_getElem _⟩
 have hc := shaped_cases (hR.sh t.pc i hi)
 unfold stepS at h
 rw [hi] at h
 simp only at h
 split at h
 ·cases h
 ·split at h
  ·cases h
   simp only [List.mem_cons, List.not_mem_nil, or_false] at hu
   rcases hu with rfl | rfl
   ·exact ⟨by show i.x.toNat < _; omega, h2⟩
   ·exact ⟨by show i.y.toNat < _; omega, h2⟩
  ·split at h
   ·cases h
    simp only [List.mem_cons, List.not_mem_nil, or_false] at hu
    subst hu
    exact ⟨by show i.x.toNat < _; omega, h2⟩
   ·split at h
    ·cases h
     simp only [List.mem_cons, List.not_mem_nil, or_false] at hu
     subst hu
     exact ⟨by show t.pc + 1 < _; omega, h2⟩
    ·split at h
     ·cases h
      split at hu
      ·simp only [List.mem_cons, List.not_mem_nil, or_false] at hu
       subst hu
       exact ⟨by show t.pc + 1 < _; omega, h2⟩
      ·cases hu
     ·split at h
      ·cases h
       split at hu
       ·simp only [List.mem_cons, List.not_mem_nil, or_false] at hu
        subst hu
        exact ⟨by show t.pc + 1 < _; omega, h2⟩
       ·cases hu
      ·cases h
       split at hu
       ·rename_i h8
        simp only [List.mem_cons, List.not_mem_nil, or_false] at hu
        subst hu
        exact ⟨by show t.pc + 1 < _; omega, by show t.at_ + 1 ≤ _; omega⟩
       ·cases hu

theorem try_last (v : Tr3) (r : List Tr3) : ((v :: r).reverse.map tryC)[r.length]? = some (tryC v) := by
 rw [List.getElem?_map, List.reverse_cons, List.getElem?_append_right (by simp)]; simp
theorem try_pop (v : Tr3) (r : List Tr3) : (((v :: r).reverse.map tryC).take r.length).drop 0 = r.reverse.map tryC := by
 rw [List.reverse_cons, List.map_append, List.drop_zero, List.take_left' (by simp)]

/-- what the program's search says -/
def outC (r : Option Cps) : D := match r with
 | some c => .tup [.agg (capsC c), .bool true]
 | none => .tup [.agg (capsC zeroCaps), .bool false]

def idxP (n : Nat) (pc at_ : Nat) : Nat := at_ * n + pc

theorem from3_ev {N : Nat} {S st : St} {H : List Ent} {k : Nat} {p : Pg} {gs : List (Nat × Nat)} {plD seenD leftD : D} {pls : List Int} {old : List (List D)} {arr : List Bool} {start i : Nat} (hF : S.flr ≤ N) (hp : p.ok) (hR : RightQ p) (hgl : gs.length ≤ 1048576) (hpl : pls.length = gs.length + 1) (hsz : (gs.length + 1) * p.code.length ≤ 134217728) (hal : arr.length = (gs.length + 1) * p.code.length) (hst : start < p.code.length) (hi : i ≤ gs.length)
  (hH : Has N S st (.box k (.mem 0 false [p.cd, p.sd, gotsD gs, plD, seenD, leftD]) :: .lst leftD 12 old :: .lst plD 1 (pls.map intC) :: .lst seenD 1 (arr.map boolC) :: H)) :
  ∃ d st', Ev pv 28 [.ptr k 0 0, .int .i64 (start : Nat), .int .i64 (i : Nat)] st d st' ∧ ∃ leftD' old', d = outC (dfsF (idxP p.code.length) (stepS p.code gs pls) (3 * arr.length + 1) arr [⟨start, i, noCaps⟩]).1 ∧
   Has N S st' (.box k (.mem 0 false [p.cd, p.sd, gotsD gs, plD, seenD, leftD']) :: .lst leftD' 12 old' :: .lst plD 1 (pls.map intC) :: .lst seenD 1 ((dfsF (idxP p.code.length) (stepS p.code gs pls) (3 * arr.length + 1) arr [⟨start, i, noCaps⟩]).2.map boolC) :: H) := by
 have hlen := hp.cl
 obtain ⟨R, hR0⟩ : ∃ R, dfsF (idxP p.code.length) (stepS p.code gs pls) (3 * arr.length + 1) arr [⟨start, i, noCaps⟩] = R := ⟨_, rfl⟩
 rw [hR0]
 have hcl0 := List.count_le_length (a := false) (l := arr)
 refine Ev.mkE rfl fi28 rfl rfl rfl ?_
 dsimp only [List.cons_append, List.nil_append, List.length, Nat.reduceSub, Nat.reduceAdd, List.replicate_succ, List.replicate_zero]
 change EvC _ _ _ _ st _
 try refine qy ?_
 repeat refine qq ?_
 try generalize hK : SeqQ _ _ _ _ = K
 refine EvC.reg ?_
 refine qa hH fun k6 st hk6 hH => ?_
 try dsimp only [u2, u1, u3, u4, setMany, u5, u6, D.cells, Nat.reduceAdd, insC, intC, boolC, tryC, capsC, noCaps, zeroCaps] at hH
 refine qm ?_
 refine EvO.nil ?_
 try subst hK
 try refine qy ?_
 repeat refine qq ?_
 try generalize hK : SeqQ _ _ _ _ = K
 refine EvC.reg ?_
 refine qm ?_
 refine qm ?_
 refine qg ?_
 refine qp (o := 5) ?_
 refine ql hH at1 ?_
 refine EvO.oslice hH rfl (ev rfl) (by exact at2) rfl rfl (bounds_to (n := 0) (by omega)) ⟨by omega, by omega⟩ (fun _ => (put_T rfl _)) (fun y17 hH => ?_)
 dsimp only [List.set_cons_succ, List.set_cons_zero, List.take_zero] at hH
 rw [List.drop_nil] at hH
 refine qm ?_
 refine qm ?_
 refine EvO.hcall rfl rfl (Ev.prim rfl rfl) (put_T rfl _) ?_
 refine EvO.go (d := .agg (tryC ⟨start, i, noCaps⟩)) (st1 := _) rfl rfl rfl (put_T rfl _) ?_
 refine qh (s := 12) (vs := [_]) hH fun k22 st hk22 hH => ?_
 try dsimp only [u2, u1, u3, u4, setMany, u5, u6, D.cells, Nat.reduceAdd, insC, intC, boolC, tryC, capsC, noCaps, zeroCaps] at hH
 refine qP hH at3 (hH.rows at0) fun x23 st hH => ?_
 try dsimp only [u2, u1, u3, u4, setMany, u5, u6, D.cells, Nat.reduceAdd, insC, intC, boolC, tryC, capsC, noCaps, zeroCaps] at hH
 refine qg ?_
 refine qp (o := 5) ?_
 refine qT hH at2 (fun st hH => ?_) (hcs := hH.ocells at3)
 try dsimp only [u2, u1, u3, u4, setMany, u5, u6, D.cells, Nat.reduceAdd, insC, intC, boolC, tryC, capsC, noCaps, zeroCaps] at hH
 refine EvO.nil ?_
 try subst hK
 try refine qy ?_
 repeat refine qq ?_
 refine EvC.block ?_
 refine EvC.loop (fun mm fr st => ∃ (ld : D) (ar : List Bool) (stk : List Tr3), fr.clean = ⟨12, [.ptr k 0 0, ixF_Bb fr 1, ixF_Bb fr 2, ixF_Bb fr 3, ixF_Bb fr 4, ixF_Bb fr 5, .ptr k6 0 0, .bool false, ixF_Bb fr 8, ixF_Bb fr 9, ixF_Bb fr 10, ixF_Bb fr 11], []⟩ ∧ Has N S st (.box k6 (.mem 0 false (capsC zeroCaps)) :: .box k (.mem 0 false [p.cd, p.sd, gotsD gs, plD, seenD, ld]) :: .lst ld 12 (stk.reverse.map tryC) :: .lst plD 1 (pls.map intC) :: .lst seenD 1 (ar.map boolC) :: H) ∧ (dfsF (idxP p.code.length) (stepS p.code gs pls) mm ar stk = R) ∧ (3 * ar.count false + stk.length ≤ mm) ∧ (ar.length = (gs.length + 1) * p.code.length) ∧ (∀ v ∈ stk, okT p gs v) ∧ (mm ≤ 3 * arr.length + 1)) (3 * arr.length + 1) ?_ ?_
 ·exact ⟨_, arr, [⟨start, i, noCaps⟩], rfl, (by exact hH.drop 1), hR0, (by simp only [List.length_cons, List.length_nil]; omega), hal, (by intro v hv; simp only [List.mem_cons, List.not_mem_nil, or_false] at hv; subst hv; exact ⟨hst, hi⟩), Nat.le_refl _⟩
 rintro mm fr st ⟨ld, ar, stk, hfr, hH, hd, hm, hal, hsk, hmm⟩
 rw [hfr]
 clear hfr
 try generalize ixF_Bb fr = ee
 clear fr
 try refine qy ?_
 rcases stk with _ | ⟨v, stk⟩
 ·try refine qy ?_
  repeat refine qq ?_
  try generalize hK : SeqQ _ _ _ _ = K
  refine EvC.reg ?_
  refine qm ?_
  refine qg ?_
  refine qp (o := 5) ?_
  refine ql hH at1 ?_
  refine qn ?_ (hR := hH.rows at2)
  try simp only [List.length_map, List.length_append, List.length_cons, List.length_nil, List.length_set, List.length_replicate, List.length_reverse]
  refine qg ?_
  refine EvO.nil ?_
  try subst hK
  try refine qy ?_
  repeat refine qq ?_
  refine EvC.cond (v := false) (by dsimp only [Fr.ev, Fr.get, nth, Go.V.look]; rfl) (fun h => by cases h) (fun _ => ?_)
  try refine qy ?_
  refine EvC.exit ?_
  try refine qy ?_
  repeat refine qq ?_
  try generalize hK : SeqQ _ _ _ _ = K
  refine EvC.reg ?_
  refine EvO.go (d := .agg (capsC zeroCaps)) (st1 := _) rfl rfl rfl (put_T rfl _) ?_
  refine qS hH at0 fun st hH => ?_
  try dsimp only [u2, u1, u3, u4, setMany, u5, u6, D.cells, Nat.reduceAdd, insC, intC, boolC, tryC, capsC, noCaps, zeroCaps] at hH
  refine qm ?_
  refine EvO.nil ?_
  try subst hK
  try refine qy ?_
  have hfin : R = (none, ar) := by rw [← hd]; cases mm <;> rfl
  refine EvC.ret ⟨fun i h => (by cases h), _, _, _, hH.resCellT rfl at0 rfl rfl, rfl, ?_⟩
  rw [hfin]
  exact ⟨_, _, rfl, hH.drop 1⟩
 ·have hv := hsk v (List.mem_cons_self ..)
  obtain ⟨hv1, hv2⟩ := hv
  have hst : ∀ w ∈ stk, okT p gs w := fun w hw => hsk w (List.mem_cons_of_mem _ hw)
  simp only [List.length_cons] at hm
  obtain ⟨mm, rfl⟩ : ∃ m', mm = m' + 1 := ⟨mm - 1, by omega⟩
  have hbd : v.at_ * p.code.length + v.pc < ar.length := by
   have h1 : (v.at_ + 1) * p.code.length ≤ (gs.length + 1) * p.code.length := Nat.mul_le_mul_right _ (by omega)
   rw [Nat.add_mul, Nat.one_mul] at h1
   omega
  obtain ⟨b, hb⟩ : ∃ b, ar[idxP p.code.length v.pc v.at_]? = some b := ⟨ar[idxP p.code.length v.pc v.at_]'hbd, List.getElem?_eq_getElem _⟩
  obtain ⟨ii, hii⟩ : ∃ x, p.code[v.pc]? = some x := ⟨p.code[v.pc]'hv1, List.getElem?_eq_getElem _⟩
  have hsok := fun l => step_ok (pl := pls) hR (t := v) ⟨hv1, hv2⟩ l
  have hsln := step_len p.code gs pls v
  have hr1 := try_last v stk
  have hr2 := bool_get hb
  obtain ⟨m, hm0⟩ : ∃ m, v.at_ * p.code.length = m := ⟨_, rfl⟩
  have hix : idxP p.code.length v.pc v.at_ = m + v.pc := by unfold idxP; rw [hm0]
  rw [hm0] at hbd
  rw [hix] at hr2
  have hca := hp.c.arg N S
  try refine qy ?_
  repeat refine qq ?_
  try generalize hK : SeqQ _ _ _ _ = K
  refine EvC.reg ?_
  refine qm ?_
  refine qg ?_
  refine qp (o := 5) ?_
  refine ql hH at1 ?_
  refine qn ?_ (hR := hH.rows at2)
  try simp only [List.length_map, List.length_append, List.length_cons, List.length_nil, List.length_set, List.length_replicate, List.length_reverse]
  refine qg ?_
  refine EvO.nil ?_
  try subst hK
  try refine qy ?_
  repeat refine qq ?_
  refine EvC.cond (v := true) (by dsimp only [Fr.ev, Fr.get, nth, Go.V.look]; simp) (fun _ => ?_) (fun h => by cases h)
  try refine qy ?_
  refine EvC.skip ?_
  try refine qy ?_
  repeat refine qq ?_
  refine EvC.block ?_
  try refine qy ?_
  repeat refine qq ?_
  try generalize hK : SeqQ _ _ _ _ = K
  refine EvC.reg ?_
  refine qm ?_
  refine qg ?_
  refine qp (o := 5) ?_
  refine ql hH at1 ?_
  refine qm ?_
  refine qg ?_
  refine qp (o := 5) ?_
  refine ql hH at1 ?_
  refine qn ?_ (hR := hH.rows at2)
  try simp only [List.length_map, List.length_append, List.length_cons, List.length_nil, List.length_set, List.length_replicate, List.length_reverse]
  refine EvO.subZ (z := ((stk.length : Nat) : Int)) rfl (ev rfl) (ev rfl) (by (try simp only [List.length_reverse, List.length_cons, List.length_nil, List.length_append, List.length_map, List.length_set]); rw [wrap_i64 (by omega) (by omega)]; omega) (put_T rfl _) ?_
  refine qi hH at2 fun p42 hp42 => ?_
  refine EvO.oloadS hH rfl (ev rfl) (by assumption) (by exact at2) (by assumption) rfl (put_T rfl _) ?_
  refine qa hH fun k8 st hk8 hH => ?_
  try dsimp only [u2, u1, u3, u4, setMany, u5, u6, D.cells, Nat.reduceAdd, insC, intC, boolC, tryC, capsC, noCaps, zeroCaps] at hH
  refine qS hH at0 fun st hH => ?_
  try dsimp only [u2, u1, u3, u4, setMany, u5, u6, D.cells, Nat.reduceAdd, insC, intC, boolC, tryC, capsC, noCaps, zeroCaps] at hH
  refine EvO.nil ?_
  try subst hK
  try refine qy ?_
  repeat refine qq ?_
  try generalize hK : SeqQ _ _ _ _ = K
  refine EvC.reg ?_
  refine qm ?_
  refine qm ?_
  refine qg ?_
  refine qp (o := 5) ?_
  refine ql hH at2 ?_
  refine qm ?_
  refine qg ?_
  refine qp (o := 5) ?_
  refine ql hH at2 ?_
  refine qn ?_ (hR := hH.rows at3)
  try simp only [List.length_map, List.length_append, List.length_cons, List.length_nil, List.length_set, List.length_replicate, List.length_reverse]
  refine EvO.subZ (z := ((stk.length : Nat) : Int)) rfl (ev rfl) (ev rfl) (by (try simp only [List.length_reverse, List.length_cons, List.length_nil, List.length_append, List.length_map, List.length_set]); rw [wrap_i64 (by omega) (by omega)]; omega) (put_T rfl _) ?_
  refine EvO.oslice hH rfl (ev rfl) (by exact at3) rfl rfl (bounds_to (by simp only [List.length_map, List.length_reverse, List.length_cons, List.length_append, List.length_nil, List.length_take, List.length_drop, List.length_set, List.length_replicate]; omega)) ⟨(by omega), (by simp only [List.length_map, List.length_reverse, List.length_cons, List.length_append, List.length_nil, List.length_take, List.length_drop, List.length_set, List.length_replicate]; omega)⟩ (fun _ => (put_T rfl _)) (fun y55 hH => ?_)
  refine qg ?_
  refine qp (o := 5) ?_
  refine qT hH at2 (fun st hH => ?_) (hcs := hH.ocells at3)
  try dsimp only [u2, u1, u3, u4, setMany, u5, u6, D.cells, Nat.reduceAdd, insC, intC, boolC, tryC, capsC, noCaps, zeroCaps] at hH
  refine EvO.nil ?_
  try subst hK
  try refine qy ?_
  rw [try_pop] at hH
  try refine qy ?_
  repeat refine qq ?_
  try generalize hK : SeqQ _ _ _ _ = K
  refine EvC.reg ?_
  refine qp (o := 1) ?_
  refine ql hH at0 ?_
  refine qm ?_
  refine qg ?_
  refine qp (o := 0) ?_
  refine qp (o := 0) ?_
  refine ql hH at2 ?_
  refine qn ?_
  try simp only [List.length_map, List.length_append, List.length_cons, List.length_nil, List.length_set, List.length_replicate, List.length_reverse]
  refine EvO.mulZ (z := ((m : Nat) : Int)) rfl (ev rfl) (ev rfl) (by rw [← Int.natCast_mul, hm0]; exact wrap_nat (by simp only [maxN]; omega)) (put_T rfl _) ?_
  refine qp (o := 0) ?_
  refine ql hH at0 ?_
  refine EvO.addN rfl (ev rfl) (ev rfl) (by omega) (put_T rfl _) ?_
  refine qm ?_
  refine EvO.nil ?_
  try subst hK
  try refine qy ?_
  repeat refine qq ?_
  try generalize hK : SeqQ _ _ _ _ = K
  refine EvC.reg ?_
  refine qm ?_
  refine qg ?_
  refine qp (o := 4) ?_
  refine ql hH at2 ?_
  refine qm ?_
  refine qi hH at5 fun p75 hp75 => ?_
  refine qo hH at5 ?_
  refine EvO.nil ?_
  try subst hK
  try refine qy ?_
  cases b with
  | true =>
   try refine qy ?_
   repeat refine qq ?_
   refine EvC.cond (v := true) (by rfl) (fun _ => ?_) (fun h => by cases h)
   try refine qy ?_
   refine EvC.exit ?_
   try refine qy ?_
   simp only [dfsF, hb] at hd
   exact ⟨mm, by omega, ⟨_, ar, stk, rfl, (hH.drop 1), hd, by omega, hal, hst, by omega⟩⟩
  | false =>
   have hcnt := count_set hb
   have hset : (ar.set (idxP p.code.length v.pc v.at_) true).map boolC = (ar.map boolC).set (m + v.pc) [.bool true] := by rw [List.map_set, hix]; rfl
   simp only [dfsF, hb] at hd
   try refine qy ?_
   repeat refine qq ?_
   refine EvC.cond (v := false) (by rfl) (fun h => by cases h) (fun _ => ?_)
   try refine qy ?_
   refine EvC.skip ?_
   try refine qy ?_
   repeat refine qq ?_
   try generalize hK : SeqQ _ _ _ _ = K
   refine EvC.reg ?_
   refine qm ?_
   refine qg ?_
   refine qp (o := 4) ?_
   refine ql hH at2 ?_
   refine qm ?_
   refine qi hH at5 fun p82 hp82 => ?_
   refine EvO.ostore hH rfl (ev rfl) (ev rfl) (by assumption) rfl rfl (by exact at5) (by assumption) (Nat.le_of_ble_eq_true rfl) (by exact .inl hF) (fun st hH => ?_)
   try dsimp only [u2, u1, u3, u4, setMany, u5, u6, D.cells, Nat.reduceAdd, insC, intC, boolC, tryC, capsC, noCaps, zeroCaps] at hH
   refine EvO.nil ?_
   try subst hK
   try refine qy ?_
   have hH3 : Has N S st (.box k (.mem 0 false [p.cd, p.sd, gotsD gs, plD, seenD, y55]) :: .lst y55 12 (stk.reverse.map tryC) :: .lst plD 1 (pls.map intC) :: .box k6 (.mem 0 false (capsC zeroCaps)) :: .lst seenD 1 ((ar.map boolC).set (m + v.pc) [.bool true]) :: H) :=
    (((hH.drop 1).front (j := 3) rfl).front (j := 3) rfl).front (j := 3) rfl
   obtain ⟨d, st1, hev, hpost⟩ := step_ev hF hp hii (hR.sh v.pc ii hii) hgl hv2 hpl (by omega) hH3
   unfold stepPost at hpost
   cases hS : stepS p.code gs pls v with
   | found =>
    rw [hS] at hpost hd
    simp only at hpost hd
    obtain ⟨rfl, ld', hH4⟩ := hpost
    have hH4 := hH4.front (j := 3) rfl
    try refine qy ?_
    repeat refine qq ?_
    try generalize hK : SeqQ _ _ _ _ = K
    refine EvC.reg ?_
    refine qm ?_
    refine EvO.hloadS (m := 12) hH rfl (ev rfl) (by exact at0) (by dsimp only [List.drop_succ_cons, List.drop_zero, List.take_succ_cons, List.take_zero, insC, intC, boolC, tryC, capsC, noCaps, zeroCaps] <;> rfl) rfl rfl (put_T rfl _) ?_
    refine EvO.hcall rfl rfl (hev) (put_T rfl _) ?_
    refine qm ?_
    refine qg ?_
    refine qg ?_
    refine EvO.halloc hH4 rfl rfl (fun _ => by dsimp only [Fr.put, List.set_cons_succ, List.set_cons_zero] <;> rfl) (fun k10 st hk10 hH => ?_)
    try dsimp only [capsC, zeroCaps] at hH
    refine qT hH at0 fun st hH => ?_
    try dsimp only [u2, u1, u3, u4, setMany, u5, u6, D.cells, Nat.reduceAdd, insC, intC, boolC, tryC, capsC, noCaps, zeroCaps] at hH
    refine qm ?_
    refine EvO.nil ?_
    try subst hK
    try refine qy ?_
    repeat refine qq ?_
    try generalize hK : SeqQ _ _ _ _ = K
    refine EvC.reg ?_
    refine qm ?_
    refine EvO.nil ?_
    try subst hK
    try refine qy ?_
    repeat refine qq ?_
    refine EvC.cond (v := true) (by rfl) (fun _ => ?_) (fun h => by cases h)
    try refine qy ?_
    repeat refine qq ?_
    try generalize hK : SeqQ _ _ _ _ = K
    refine EvC.reg ?_
    refine EvO.hloadS (m := 10) hH rfl (ev rfl) (by exact at0) (by dsimp only [List.drop_succ_cons, List.drop_zero, List.take_succ_cons, List.take_zero, insC, intC, boolC, tryC, capsC, noCaps, zeroCaps] <;> rfl) rfl rfl (put_T rfl _) ?_
    refine qS hH at1 fun st hH => ?_
    try dsimp only [u2, u1, u3, u4, setMany, u5, u6, D.cells, Nat.reduceAdd, insC, intC, boolC, tryC, capsC, noCaps, zeroCaps] at hH
    refine qm ?_
    refine EvO.nil ?_
    try subst hK
    try refine qy ?_
    refine EvC.ret ⟨fun i h => (by cases h), _, _, _, hH.resCellT rfl at1 rfl rfl, rfl, ?_⟩
    rw [← hd]
    exact ⟨_, _, rfl, (by rw [hset]; exact hH.drop 2)⟩
   | more l =>
    rw [hS] at hpost hd
    simp only at hpost hd
    obtain ⟨rfl, ld', hH4⟩ := hpost
    have hH4 := hH4.front (j := 3) rfl
    have hl2 := hsln l hS
    try refine qy ?_
    repeat refine qq ?_
    try generalize hK : SeqQ _ _ _ _ = K
    refine EvC.reg ?_
    refine qm ?_
    refine EvO.hloadS (m := 12) hH rfl (ev rfl) (by exact at0) (by dsimp only [List.drop_succ_cons, List.drop_zero, List.take_succ_cons, List.take_zero, insC, intC, boolC, tryC, capsC, noCaps, zeroCaps] <;> rfl) rfl rfl (put_T rfl _) ?_
    refine EvO.hcall rfl rfl (hev) (put_T rfl _) ?_
    refine qm ?_
    refine qg ?_
    refine qg ?_
    refine EvO.halloc hH4 rfl rfl (fun _ => by dsimp only [Fr.put, List.set_cons_succ, List.set_cons_zero] <;> rfl) (fun k10 st hk10 hH => ?_)
    try dsimp only [capsC, zeroCaps] at hH
    refine qT hH at0 fun st hH => ?_
    try dsimp only [u2, u1, u3, u4, setMany, u5, u6, D.cells, Nat.reduceAdd, insC, intC, boolC, tryC, capsC, noCaps, zeroCaps] at hH
    refine qm ?_
    refine EvO.nil ?_
    try subst hK
    try refine qy ?_
    repeat refine qq ?_
    try generalize hK : SeqQ _ _ _ _ = K
    refine EvC.reg ?_
    refine qm ?_
    refine EvO.nil ?_
    try subst hK
    try refine qy ?_
    repeat refine qq ?_
    refine EvC.cond (v := false) (by rfl) (fun h => by cases h) (fun _ => ?_)
    try refine qy ?_
    refine EvC.skip ?_
    try refine qy ?_
    refine ⟨mm, by omega, ⟨_, ar.set (idxP p.code.length v.pc v.at_) true, l ++ stk, rfl, (by rw [hset]; exact hH.drop 1), hd, by simp only [List.length_append]; omega, by rw [List.length_set]; exact hal, ?_, by omega⟩⟩
    intro w hw
    rcases List.mem_append.1 hw with hw | hw
    ·exact hsok l hS w hw
    ·exact hst w hw
end Go.Proofs.YtbdilgkfnacahaaGreat
