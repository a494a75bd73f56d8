import Derived.Test.YtlljdbhefepheaaUj
namespace Go.Proofs.Ytlljdbhefepheaa
open Go.V Go
set_option maxRecDepth 100000
set_option maxHeartbeats 4000000
set_option linter.unusedSimpArgs false
set_option linter.unusedVariables false

/-- a decoder's cells: it holds h, j stands behind -/
def decC (h j : List UInt8) : List D := (h ++ j).map u8D ++ [.int .i64 (h.length : Nat)]

theorem decC_len {h j : List UInt8} (hl : (h ++ j).length = 4) : (decC h j).length = 5 := by simp [decC] at hl ⊢; omega
theorem decC_drop {h j : List UInt8} (hl : (h ++ j).length = 4) : (decC h j).drop 4 = [.int .i64 (h.length : Nat)] := by
  unfold decC
  have : ((h ++ j).map u8D).length = 4 := by rw [List.length_map, hl]
  rw [← this, List.drop_left]

theorem bytes_sub {st : St} {k v : Nat} {ar : Bool} {b : List UInt8} {rest : List D} (hm : st.bs[k]? = some (.mem v ar (b.map u8D ++ rest))) {l r : Nat} (hlr : l ≤ r) (hr : r ≤ b.length) : Bytes st (.win k v l (r - l) 1) ((b.take r).drop l) := by
  have hlen : ((b.take r).drop l).length = r - l := by simp; omega
  have := Rows.win (st := st) (s := 1) k v l (byteCells ((b.take r).drop l)) ar (b.map u8D ++ rest) (St.mem_of hm) (by rw [byteCells_len, hlen]; simp; omega) fun i e hi => by
    simp only [byteCells, List.getElem?_map] at hi
    obtain ⟨y, hy, rfl⟩ := Option.map_eq_some_iff.1 hi
    rw [List.getElem?_drop, List.getElem?_take] at hy
    split at hy
    · rename_i hlt
      have hb : b[l + i * 1]? = some y := by rw [Nat.mul_one]; exact hy
      have h2 : (b.map u8D ++ rest)[l + i * 1]? = some (u8D y) := by
        rw [List.getElem?_append_left (by rw [List.length_map]; omega), List.getElem?_map, hb]; rfl
      rw [List.take_one, List.head?_drop, h2]; rfl
    · cases hy
  rw [byteCells_len, hlen] at this
  exact this

theorem drop_ev {st : St} {k v n : Nat} {h j : List UInt8} (hm : st.bs[k]? = some (.mem v false (decC h j))) (hl : (h ++ j).length = 4) (hn : n ≤ h.length) (hro : st.ro ≤ k) :
    Ev pv 25 [.ptr k v 0, .int .i64 (n : Nat)] st (.tup []) ⟨st.bs.set k (.mem v false (decC (h.drop n) ((h ++ j).drop (h.length - n)))), st.flr, st.ro⟩ := by
  refine Ev.mk1 rfl fi25 rfl rfl rfl ?_
  dsimp only [List.cons_append, List.nil_append, List.length, Nat.reduceSub, Nat.reduceAdd, List.replicate_succ, List.replicate_zero]
  have hm0 : (enterSt .rw st).bs[k]? = some (.mem v false (decC h j)) := hm
  have hkl : k < st.bs.length := by
    rcases Nat.lt_or_ge k st.bs.length with h' | h'
    · exact h'
    · rw [List.getElem?_eq_none h'] at hm; cases hm
  have hl2 := hl
  rw [List.length_append] at hl2
  have hcl := decC_len hl
  have hcd := decC_drop hl
  have hcan : ∀ S : St, S.ro = st.ro → S.canW k 0 = true := fun S hS => canW_flat (by omega)
  try change EvC _ _ _ _ _ _
  repeat refine EvC.seq ?_
  try generalize hK : SeqQ _ _ _ _ = K
  refine EvC.reg ?_
  (first | refine EvO.T rfl rfl rfl rfl ?_ | refine EvO.L rfl rfl rfl rfl ?_ | refine EvO.N rfl rfl rfl ?_ | refine EvO.offT rfl rfl ?_ | refine EvO.offL rfl rfl ?_)
  (first | refine EvO.T rfl rfl rfl rfl ?_ | refine EvO.L rfl rfl rfl rfl ?_ | refine EvO.N rfl rfl rfl ?_ | refine EvO.offT rfl rfl ?_ | refine EvO.offL rfl rfl ?_)
  (first | refine EvO.T rfl rfl rfl rfl ?_ | refine EvO.L rfl rfl rfl rfl ?_ | refine EvO.N rfl rfl rfl ?_ | refine EvO.offT rfl rfl ?_ | refine EvO.offL rfl rfl ?_)
  refine EvO.sliceArr (l := 0) (r := 4) rfl rfl rfl rfl rfl hm0 (by rw [hcl]; decide) rfl ?_
  (first | refine EvO.T rfl rfl rfl rfl ?_ | refine EvO.L rfl rfl rfl rfl ?_ | refine EvO.N rfl rfl rfl ?_ | refine EvO.offT rfl rfl ?_ | refine EvO.offL rfl rfl ?_)
  (first | refine EvO.T rfl rfl rfl rfl ?_ | refine EvO.L rfl rfl rfl rfl ?_ | refine EvO.N rfl rfl rfl ?_ | refine EvO.offT rfl rfl ?_ | refine EvO.offL rfl rfl ?_)
  (first | refine EvO.T rfl rfl rfl rfl ?_ | refine EvO.L rfl rfl rfl rfl ?_ | refine EvO.N rfl rfl rfl ?_ | refine EvO.offT rfl rfl ?_ | refine EvO.offL rfl rfl ?_)
  (first | refine EvO.T rfl rfl rfl rfl ?_ | refine EvO.L rfl rfl rfl rfl ?_ | refine EvO.N rfl rfl rfl ?_ | refine EvO.offT rfl rfl ?_ | refine EvO.offL rfl rfl ?_)
  (first | refine EvO.T rfl rfl rfl rfl ?_ | refine EvO.L rfl rfl rfl rfl ?_ | refine EvO.N rfl rfl rfl ?_ | refine EvO.offT rfl rfl ?_ | refine EvO.offL rfl rfl ?_)
  (first | refine EvO.T rfl rfl rfl rfl ?_ | refine EvO.L rfl rfl rfl rfl ?_ | refine EvO.N rfl rfl rfl ?_ | refine EvO.offT rfl rfl ?_ | refine EvO.offL rfl rfl ?_)
  (first | refine EvO.T rfl rfl rfl rfl ?_ | refine EvO.L rfl rfl rfl rfl ?_ | refine EvO.N rfl rfl rfl ?_ | refine EvO.offT rfl rfl ?_ | refine EvO.offL rfl rfl ?_)
  refine EvO.load (k := k) (ver := v) (off := 4) rfl rfl rfl hm0 (d := .int .i64 (h.length : Nat)) (by rw [hcd]; rfl) ?_
  refine EvO.sliceArr (l := n) (r := h.length) rfl rfl rfl rfl rfl hm0 (by rw [hcl]; decide) ?_ ?_
  · show boundsD 4 (some (.int .i64 (n : Nat))) (some (.int .i64 (h.length : Nat))) = _
    simp only [boundsD, optBound, boundD]
    rw [if_pos ⟨by omega, by omega⟩]
    simp only [Option.bind_some]
    rw [if_pos ⟨by omega, by omega⟩]; rfl
  have hsrc := bytes_sub (st := enterSt .rw st) (l := n) (r := h.length) hm0 hn (by rw [hl]; omega)
  rw [List.take_left] at hsrc
  refine EvO.copy (k := k) (ver := v) (off := 0) (len := 4) (s := 1) (ys := byteCells (h.drop n)) (ar := false) (c := decC h j) rfl rfl rfl (by show D.win k v (0 + n * 1) (h.length - n) 1 = D.win k v n (h.length - n) 1; congr 1; omega) hsrc rfl rfl hm0 (by rw [hcl]; decide) ?_ ?_
  · rw [byteCells_flat]
    have : ∀ (b : List UInt8) m, refs ((b.map u8D).take m) = 0 := by
      intro b m
      induction b generalizing m with
      | nil => simp [refs]
      | cons y b ih => cases m with
        | zero => simp [refs]
        | succ m => simp only [List.map_cons, List.take_succ_cons, refs, ih]; rfl
    rw [this]
    exact hcan _ rfl
  have hc1 : (decC h j).take 0 ++ (byteCells (h.drop n)).flatten.take (min (byteCells (h.drop n)).length 4 * 1) ++ (decC h j).drop (0 + min (byteCells (h.drop n)).length 4 * 1) = (h.drop n ++ (h ++ j).drop (h.length - n)).map u8D ++ [.int .i64 (h.length : Nat)] := by
    have e1 : min (byteCells (h.drop n)).length 4 * 1 = h.length - n := by rw [byteCells_len, List.length_drop]; omega
    rw [e1, byteCells_flat, List.take_zero, List.nil_append, Nat.zero_add]
    have e2 : ((h.drop n).map u8D).take (h.length - n) = (h.drop n).map u8D := List.take_of_length_le (by rw [List.length_map, List.length_drop]; omega)
    rw [e2]
    unfold decC
    rw [List.drop_append_of_le_length (by rw [List.length_map, hl]; omega), ← List.map_drop, List.map_append, List.append_assoc]
  rw [hc1]
  generalize hj' : (h ++ j).drop (h.length - n) = j'
  have hl3 : (h.drop n ++ j').length = 4 := by rw [← hj', List.length_append, List.length_drop, List.length_drop, hl]; omega
  refine EvO.nil ?_
  dsimp only [Fr.putO, Fr.put, Fr.clean, Fr.ev, Fr.get, nth, Go.V.look, List.set_cons_succ, List.set_cons_zero, ofVal_int, ofVal_bool, ofVal_str, ofVal_nul, ofVal_pnil, ofVal_nilfn, ofVal_nilif, List.length, List.cons_append, List.nil_append, List.append_nil, Nat.reduceSub, Nat.reduceAdd, List.map, List.map_cons, List.map_nil]
  try subst hK
  try change EvC _ _ _ _ _ _
  have hm1 : ((enterSt .rw st).bs.set k (.mem v false ((h.drop n ++ j').map u8D ++ [.int .i64 (h.length : Nat)])))[k]? = some (.mem v false ((h.drop n ++ j').map u8D ++ [.int .i64 (h.length : Nat)])) := by
    rw [List.getElem?_set_self (by exact hkl)]
  have hmap : ((h.drop n ++ j').map u8D).length = 4 := by rw [List.length_map, hl3]
  generalize hS : (⟨(enterSt .rw st).bs.set k (.mem v false ((h.drop n ++ j').map u8D ++ [.int .i64 (h.length : Nat)])), (enterSt .rw st).flr, (enterSt .rw st).ro⟩ : St) = S
  have hm2 : S.bs[k]? = some (.mem v false ((h.drop n ++ j').map u8D ++ [.int .i64 (h.length : Nat)])) := by subst hS; exact hm1
  refine EvC.reg ?_
  (first | refine EvO.T rfl rfl rfl rfl ?_ | refine EvO.L rfl rfl rfl rfl ?_ | refine EvO.N rfl rfl rfl ?_ | refine EvO.offT rfl rfl ?_ | refine EvO.offL rfl rfl ?_)
  (first | refine EvO.T rfl rfl rfl rfl ?_ | refine EvO.L rfl rfl rfl rfl ?_ | refine EvO.N rfl rfl rfl ?_ | refine EvO.offT rfl rfl ?_ | refine EvO.offL rfl rfl ?_)
  (first | refine EvO.T rfl rfl rfl rfl ?_ | refine EvO.L rfl rfl rfl rfl ?_ | refine EvO.N rfl rfl rfl ?_ | refine EvO.offT rfl rfl ?_ | refine EvO.offL rfl rfl ?_)
  refine EvO.load (k := k) (ver := v) (off := 4) rfl rfl rfl hm2 (d := .int .i64 (h.length : Nat)) (by rw [← hmap, List.drop_left]; rfl) ?_
  (first | refine EvO.T rfl rfl rfl rfl ?_ | refine EvO.L rfl rfl rfl rfl ?_ | refine EvO.N rfl rfl rfl ?_ | refine EvO.offT rfl rfl ?_ | refine EvO.offL rfl rfl ?_)
  (first | refine EvO.T rfl rfl rfl rfl ?_ | refine EvO.L rfl rfl rfl rfl ?_ | refine EvO.N rfl rfl rfl ?_ | refine EvO.offT rfl rfl ?_ | refine EvO.offL rfl rfl ?_)
  rw [wrap_i64 (by omega) (by omega)]
  (first | refine EvO.T rfl rfl rfl rfl ?_ | refine EvO.L rfl rfl rfl rfl ?_ | refine EvO.N rfl rfl rfl ?_ | refine EvO.offT rfl rfl ?_ | refine EvO.offL rfl rfl ?_)
  (first | refine EvO.T rfl rfl rfl rfl ?_ | refine EvO.L rfl rfl rfl rfl ?_ | refine EvO.N rfl rfl rfl ?_ | refine EvO.offT rfl rfl ?_ | refine EvO.offL rfl rfl ?_)
  refine EvO.store (k := k) (ver := v) (off := 4) (cs := [.int .i64 ((h.length : Nat) - (n : Nat) : Int)]) rfl rfl rfl rfl rfl hm2 (by rw [List.length_append, hmap]; exact Nat.le_refl _) (hcan S (by subst hS; rfl)) ?_
  refine EvO.nil ⟨fun i h => (by cases h), [], rfl, leave_rw ?_ rfl⟩
  subst hS
  simp only [enterSt, List.set_set]
  rw [List.take_of_length_le (by simp)]
  congr 2
  unfold decC
  rw [List.take_left' hmap, List.length_drop]
  have : (((h.drop n ++ j').map u8D ++ [D.int .i64 (h.length : Nat)]).drop (4 + [D.int .i64 ((h.length : Nat) - (n : Nat) : Int)].length)) = [] := List.drop_eq_nil_of_le (by simp [hmap]; simp at hmap; omega)
  have e4 : ((h.length : Nat) : Int) - (n : Nat) = ((h.length - n : Nat) : Int) := by omega
  rw [this, List.append_nil, e4, hj']

def tellF : Nat → List UInt8 → List (Nat × Nat) × List UInt8
  | 0, l => ([], l)
  | _ + 1, [] => ([], [])
  | f + 1, c :: l => if begunS (c :: l) = true then ([], c :: l) else (oneS (c :: l) :: (tellF f ((c :: l).drop (oneS (c :: l)).2)).1, (tellF f ((c :: l).drop (oneS (c :: l)).2)).2)

def byteS (h : List UInt8) (c : UInt8) : List (Nat × Nat) × List UInt8 := tellF (h.length + 1) (h ++ [c])

def jF : Nat → List UInt8 → List UInt8 → List UInt8
  | 0, _, j => j
  | _ + 1, [], j => j
  | f + 1, c :: l, j => if begunS (c :: l) = true then j else jF f ((c :: l).drop (oneS (c :: l)).2) ((c :: l ++ j).drop ((c :: l).length - (oneS (c :: l)).2))

theorem begun_first {b : List UInt8} (h : begunS b = true) : firstS b = (0, 0, true) := by
  cases b with
  | nil => simp [begunS, firstS] at h
  | cons c xs =>
    unfold begunS at h
    rw [first_all] at h ⊢
    by_cases h1 : needS c.toNat = 0
    · rw [if_pos h1] at h; simp at h
    by_cases h2 : tailS c.toNat (needS c.toNat - 1) 1 xs = true
    · by_cases h3 : xs.length < needS c.toNat - 1
      · rw [if_neg h1, if_pos h2, if_pos h3]
      · rw [if_neg h1, if_pos h2, if_neg h3] at h; simp at h
    · rw [if_neg h1, if_neg h2] at h; simp at h

theorem decC_set {h js : List UInt8} {j0 c : UInt8} (hl : (h ++ j0 :: js).length = 4) : (decC h (j0 :: js)).take (0 + 0 + h.length * 1) ++ [u8D c] ++ (decC h (j0 :: js)).drop (0 + 0 + h.length * 1 + 1) = (h ++ c :: js).map u8D ++ [.int .i64 (h.length : Nat)] := by
  have e : 0 + 0 + h.length * 1 = (h.map u8D).length := by rw [List.length_map]; omega
  have e2 : decC h (j0 :: js) = h.map u8D ++ (u8D j0 :: (js.map u8D ++ [.int .i64 (h.length : Nat)])) := by simp [decC]
  rw [e, e2, List.take_left, ← List.drop_drop, List.drop_left]
  simp

theorem acc_setLow {N k s : Nat} {st : St} {x : D} {es : List (List D)} (hk : k < N) (h : V.Acc N st s x es) (bx : Box) : V.Acc N ⟨st.bs.set k bx, st.flr, st.ro⟩ s x es := by
  cases h with
  | nul => exact .nul
  | win k2 ver2 es hN2 hm5 he => exact .win k2 ver2 _ hN2 (by simp only; rw [List.getElem?_set_ne (by omega)]; exact hm5) he

theorem byte_ev {st : St} {k v : Nat} {h js : List UInt8} {j0 c : UInt8} (hm : st.bs[k]? = some (.mem v false (decC h (j0 :: js)))) (hl : (h ++ j0 :: js).length = 4) (hro : st.ro ≤ k) :
    Ev pv 13 [.ptr k v 0, .int .u8 (c.toNat : Nat)] st (gotsD (byteS h c).1) ⟨st.bs.set k (.mem v false (decC (byteS h c).2 (jF (h.length + 1) (h ++ [c]) js))), st.flr, st.ro⟩ := by
  have hkl : k < st.bs.length := by
    rcases Nat.lt_or_ge k st.bs.length with h' | h'
    · exact h'
    · rw [List.getElem?_eq_none h'] at hm; cases hm
  have hl2 := hl
  rw [List.length_append, List.length_cons] at hl2
  refine Ev.mk1 rfl fi13 rfl rfl rfl ?_
  dsimp only [List.cons_append, List.nil_append, List.length, Nat.reduceSub, Nat.reduceAdd, List.replicate_succ, List.replicate_zero]
  have hm0 : (enterSt .rw st).bs[k]? = some (.mem v false (decC h (j0 :: js))) := hm
  have hcd := decC_drop hl
  have hcl := decC_len hl
  have hcan : ∀ S : St, S.ro = st.ro → S.canW k 0 = true := fun S hS => canW_flat (by omega)
  try change EvC _ _ _ _ _ _
  repeat refine EvC.seq ?_
  try generalize hK : SeqQ _ _ _ _ = K
  refine EvC.reg ?_
  repeat (first | refine EvO.T rfl rfl rfl rfl ?_ | refine EvO.L rfl rfl rfl rfl ?_ | refine EvO.N rfl rfl rfl ?_ | refine EvO.offT rfl rfl ?_ | refine EvO.offL rfl rfl ?_)
  refine EvO.nil ?_
  dsimp only [Fr.putO, Fr.put, Fr.clean, Fr.ev, Fr.get, nth, Go.V.look, List.set_cons_succ, List.set_cons_zero, ofVal_int, ofVal_bool, ofVal_str, ofVal_nul, ofVal_pnil, ofVal_nilfn, ofVal_nilif, List.length, List.cons_append, List.nil_append, List.append_nil, Nat.reduceSub, Nat.reduceAdd, List.map, List.map_cons, List.map_nil]
  try subst hK
  try change EvC _ _ _ _ _ _
  try change EvC _ _ _ _ _ _
  repeat refine EvC.seq ?_
  try generalize hK : SeqQ _ _ _ _ = K
  refine EvC.reg ?_
  (first | refine EvO.T rfl rfl rfl rfl ?_ | refine EvO.L rfl rfl rfl rfl ?_ | refine EvO.N rfl rfl rfl ?_ | refine EvO.offT rfl rfl ?_ | refine EvO.offL rfl rfl ?_)
  (first | refine EvO.T rfl rfl rfl rfl ?_ | refine EvO.L rfl rfl rfl rfl ?_ | refine EvO.N rfl rfl rfl ?_ | refine EvO.offT rfl rfl ?_ | refine EvO.offL rfl rfl ?_)
  (first | refine EvO.T rfl rfl rfl rfl ?_ | refine EvO.L rfl rfl rfl rfl ?_ | refine EvO.N rfl rfl rfl ?_ | refine EvO.offT rfl rfl ?_ | refine EvO.offL rfl rfl ?_)
  (first | refine EvO.T rfl rfl rfl rfl ?_ | refine EvO.L rfl rfl rfl rfl ?_ | refine EvO.N rfl rfl rfl ?_ | refine EvO.offT rfl rfl ?_ | refine EvO.offL rfl rfl ?_)
  refine EvO.load (k := k) (ver := v) (off := 4) rfl rfl rfl hm0 (d := .int .i64 (h.length : Nat)) (by rw [hcd]; rfl) ?_
  (first | refine EvO.T rfl rfl rfl rfl ?_ | refine EvO.L rfl rfl rfl rfl ?_ | refine EvO.N rfl rfl rfl ?_ | refine EvO.offT rfl rfl ?_ | refine EvO.offL rfl rfl ?_)
  (first | refine EvO.T rfl rfl rfl rfl ?_ | refine EvO.L rfl rfl rfl rfl ?_ | refine EvO.N rfl rfl rfl ?_ | refine EvO.offT rfl rfl ?_ | refine EvO.offL rfl rfl ?_)
  (first | refine EvO.T rfl rfl rfl rfl ?_ | refine EvO.L rfl rfl rfl rfl ?_ | refine EvO.N rfl rfl rfl ?_ | refine EvO.offT rfl rfl ?_ | refine EvO.offL rfl rfl ?_)
  refine EvO.idxArr (k := k) (v := v) (off := 0 + 0) (m := 4) (s := 1) (i := h.length) rfl rfl rfl rfl rfl rfl (by omega) ?_
  refine EvO.store (k := k) (ver := v) (off := 0 + 0 + h.length * 1) (cs := [u8D c]) rfl rfl rfl rfl rfl hm0 (by rw [hcl]; simp; omega) (hcan _ rfl) ?_
  rw [show (decC h (j0 :: js)).take (0 + 0 + h.length * 1) ++ [u8D c] ++ (decC h (j0 :: js)).drop (0 + 0 + h.length * 1 + [u8D c].length) = (h ++ c :: js).map u8D ++ [.int .i64 (h.length : Nat)] from decC_set hl]
  have hmap : ((h ++ c :: js).map u8D).length = 4 := by simp; omega
  have hx0 : Exk st.bs.length k (enterSt .rw st) ⟨(enterSt .rw st).bs.set k (.mem v false ((h ++ c :: js).map u8D ++ [.int .i64 (h.length : Nat)])), (enterSt .rw st).flr, (enterSt .rw st).ro⟩ := Exk.put ⟨fun _ _ _ => rfl, Nat.le_refl _, rfl, rfl⟩ _
  generalize hS1 : (⟨(enterSt .rw st).bs.set k (.mem v false ((h ++ c :: js).map u8D ++ [.int .i64 (h.length : Nat)])), (enterSt .rw st).flr, (enterSt .rw st).ro⟩ : St) = S1 at hx0 ⊢
  have hm1 : S1.bs[k]? = some (.mem v false ((h ++ c :: js).map u8D ++ [.int .i64 (h.length : Nat)])) := by subst hS1; exact List.getElem?_set_self hkl
  refine EvO.nil ?_
  dsimp only [Fr.putO, Fr.put, Fr.clean, Fr.ev, Fr.get, nth, Go.V.look, List.set_cons_succ, List.set_cons_zero, ofVal_int, ofVal_bool, ofVal_str, ofVal_nul, ofVal_pnil, ofVal_nilfn, ofVal_nilif, List.length, List.cons_append, List.nil_append, List.append_nil, Nat.reduceSub, Nat.reduceAdd, List.map, List.map_cons, List.map_nil]
  try subst hK
  try change EvC _ _ _ _ _ _
  try change EvC _ _ _ _ _ _
  repeat refine EvC.seq ?_
  try generalize hK : SeqQ _ _ _ _ = K
  refine EvC.reg ?_
  (first | refine EvO.T rfl rfl rfl rfl ?_ | refine EvO.L rfl rfl rfl rfl ?_ | refine EvO.N rfl rfl rfl ?_ | refine EvO.offT rfl rfl ?_ | refine EvO.offL rfl rfl ?_)
  (first | refine EvO.T rfl rfl rfl rfl ?_ | refine EvO.L rfl rfl rfl rfl ?_ | refine EvO.N rfl rfl rfl ?_ | refine EvO.offT rfl rfl ?_ | refine EvO.offL rfl rfl ?_)
  (first | refine EvO.T rfl rfl rfl rfl ?_ | refine EvO.L rfl rfl rfl rfl ?_ | refine EvO.N rfl rfl rfl ?_ | refine EvO.offT rfl rfl ?_ | refine EvO.offL rfl rfl ?_)
  refine EvO.load (k := k) (ver := v) (off := 4) rfl rfl rfl hm1 (d := .int .i64 (h.length : Nat)) (by rw [← hmap, List.drop_left]; rfl) ?_
  (first | refine EvO.T rfl rfl rfl rfl ?_ | refine EvO.L rfl rfl rfl rfl ?_ | refine EvO.N rfl rfl rfl ?_ | refine EvO.offT rfl rfl ?_ | refine EvO.offL rfl rfl ?_)
  rw [wrap_i64 (by omega) (by omega)]
  (first | refine EvO.T rfl rfl rfl rfl ?_ | refine EvO.L rfl rfl rfl rfl ?_ | refine EvO.N rfl rfl rfl ?_ | refine EvO.offT rfl rfl ?_ | refine EvO.offL rfl rfl ?_)
  (first | refine EvO.T rfl rfl rfl rfl ?_ | refine EvO.L rfl rfl rfl rfl ?_ | refine EvO.N rfl rfl rfl ?_ | refine EvO.offT rfl rfl ?_ | refine EvO.offL rfl rfl ?_)
  refine EvO.store (k := k) (ver := v) (off := 4) (cs := [.int .i64 ((h.length : Nat) + 1 : Int)]) rfl rfl rfl rfl rfl hm1 (by rw [List.length_append, hmap]; exact Nat.le_refl _) (hcan S1 (by subst hS1; rfl)) ?_
  have hc2 : ((h ++ c :: js).map u8D ++ [D.int .i64 (h.length : Nat)]).take 4 ++ [.int .i64 ((h.length : Nat) + 1 : Int)] ++ ((h ++ c :: js).map u8D ++ [D.int .i64 (h.length : Nat)]).drop (4 + [D.int .i64 ((h.length : Nat) + 1 : Int)].length) = decC (h ++ [c]) js := by
    rw [List.take_left' hmap, List.drop_eq_nil_of_le (by rw [List.length_append, hmap]; exact Nat.le_refl _), List.append_nil]
    unfold decC
    simp
  rw [hc2]
  have hx1 := hx0.put (.mem v false (decC (h ++ [c]) js))
  have hm2 : (⟨S1.bs.set k (.mem v false (decC (h ++ [c]) js)), S1.flr, S1.ro⟩ : St).bs[k]? = some (.mem v false (decC (h ++ [c]) js)) := List.getElem?_set_self (by have := hx0.len; have e : (enterSt .rw st).bs.length = st.bs.length := rfl; omega)
  generalize (⟨S1.bs.set k (.mem v false (decC (h ++ [c]) js)), S1.flr, S1.ro⟩ : St) = S2 at hx1 hm2 ⊢
  refine EvO.nil ?_
  dsimp only [Fr.putO, Fr.put, Fr.clean, Fr.ev, Fr.get, nth, Go.V.look, List.set_cons_succ, List.set_cons_zero, ofVal_int, ofVal_bool, ofVal_str, ofVal_nul, ofVal_pnil, ofVal_nilfn, ofVal_nilif, List.length, List.cons_append, List.nil_append, List.append_nil, Nat.reduceSub, Nat.reduceAdd, List.map, List.map_cons, List.map_nil]
  try subst hK
  try change EvC _ _ _ _ _ _
  try change EvC _ _ _ _ _ _
  repeat refine EvC.seq ?_
  try generalize hK : SeqQ _ _ _ _ = K
  refine EvC.reg ?_
  repeat (first | refine EvO.T rfl rfl rfl rfl ?_ | refine EvO.L rfl rfl rfl rfl ?_ | refine EvO.N rfl rfl rfl ?_ | refine EvO.offT rfl rfl ?_ | refine EvO.offL rfl rfl ?_)
  refine EvO.nil ?_
  dsimp only [Fr.putO, Fr.put, Fr.clean, Fr.ev, Fr.get, nth, Go.V.look, List.set_cons_succ, List.set_cons_zero, ofVal_int, ofVal_bool, ofVal_str, ofVal_nul, ofVal_pnil, ofVal_nilfn, ofVal_nilif, List.length, List.cons_append, List.nil_append, List.append_nil, Nat.reduceSub, Nat.reduceAdd, List.map, List.map_cons, List.map_nil]
  try subst hK
  try change EvC _ _ _ _ _ _
  try change EvC _ _ _ _ _ _
  repeat refine EvC.seq ?_
  refine EvC.block ?_
  have hlt : ((h ++ [c]) ++ js).length = 4 := by simp; omega
  generalize hK0 : SeqQ _ _ _ _ = K0
  have fin : ∀ (st' : St) (done : List (Nat × Nat)) (out r n bg : D) (m2 : List (Nat × D)) (j : List UInt8), Exk st.bs.length k (enterSt .rw st) st' → Acc st.bs.length st' 2 out (done.map gotC) → st'.bs[k]? = some (.mem v false (decC (byteS h c).2 j)) → done = (byteS h c).1 → j = jF (h.length + 1) (h ++ [c]) js →
      K0 .next ⟨9, [.ptr k v 0, .int .u8 (c.toNat : Nat), .tup [], .tup [], .nul, out, r, n, bg], m2⟩ st' := by
    intro st' done out r n bg m2 j hx hacc hm hd hj
    subst hK0
    try change EvC _ _ _ _ _ _
    repeat refine EvC.seq ?_
    try generalize hK : SeqQ _ _ _ _ = K
    refine EvC.reg ?_
    repeat (first | refine EvO.T rfl rfl rfl rfl ?_ | refine EvO.L rfl rfl rfl rfl ?_ | refine EvO.N rfl rfl rfl ?_ | refine EvO.offT rfl rfl ?_ | refine EvO.offL rfl rfl ?_)
    refine EvO.nil ?_
    dsimp only [Fr.putO, Fr.put, Fr.clean, Fr.ev, Fr.get, nth, Go.V.look, List.set_cons_succ, List.set_cons_zero, ofVal_int, ofVal_bool, ofVal_str, ofVal_nul, ofVal_pnil, ofVal_nilfn, ofVal_nilif, List.length, List.cons_append, List.nil_append, List.append_nil, Nat.reduceSub, Nat.reduceAdd, List.map, List.map_cons, List.map_nil]
    try subst hK
    try change EvC _ _ _ _ _ _
    refine EvC.ret ⟨fun i h => (by cases h), _, rfl, leave_rw ?_ ?_⟩
    · have := hx.take (a := enterSt .rw st) hkl hm
      rw [← hj]; exact this
    · rw [← hd]
      exact hacc.freeze gotC_plain (n := 15) (by decide)
  refine EvC.loop (fun m fr st' => ∃ (f : Nat) (l j : List UInt8) (done : List (Nat × Nat)) (out r n bg : D), fr.clean = ⟨9, [.ptr k v 0, .int .u8 (c.toNat : Nat), .tup [], .tup [], .nul, out, r, n, bg], []⟩ ∧ st'.bs[k]? = some (.mem v false (decC l j)) ∧ (l ++ j).length = 4 ∧ Exk st.bs.length k (enterSt .rw st) st' ∧
    Acc st.bs.length st' 2 out (done.map gotC) ∧ m = l.length ∧ l.length ≤ f ∧ done ++ (tellF f l).1 = (byteS h c).1 ∧ (tellF f l).2 = (byteS h c).2 ∧ jF f l j = jF (h.length + 1) (h ++ [c]) js ∧ done.length + l.length ≤ 4) (h.length + 1)
    ⟨h.length + 1, h ++ [c], js, [], .nul, _, _, _, rfl, hm2, hlt, hx1, .nul, by simp, by simp, rfl, rfl, rfl, by simp; omega⟩ ?_
  clear hm2 hx1 hc2 hm1 hx0 hS1
  rintro m fr st' ⟨f, l, j, done, out, r, n, bg, hfr, hm3, hl4, hx, hacc, rfl, hlf, ht1, ht2, hj, hdl⟩
  rw [hfr]
  have hd4 := decC_drop hl4
  have hN : st.bs.length ≤ st'.bs.length := hx.len
  have hflr : st'.flr = st.bs.length := by rw [hx.flr]; rfl
  have hro2 : st'.ro = st.ro := by rw [hx.ro]; rfl
  try change EvC _ _ _ _ _ _
  repeat refine EvC.seq ?_
  try generalize hK : SeqQ _ _ _ _ = K
  refine EvC.reg ?_
  (first | refine EvO.T rfl rfl rfl rfl ?_ | refine EvO.L rfl rfl rfl rfl ?_ | refine EvO.N rfl rfl rfl ?_ | refine EvO.offT rfl rfl ?_ | refine EvO.offL rfl rfl ?_)
  (first | refine EvO.T rfl rfl rfl rfl ?_ | refine EvO.L rfl rfl rfl rfl ?_ | refine EvO.N rfl rfl rfl ?_ | refine EvO.offT rfl rfl ?_ | refine EvO.offL rfl rfl ?_)
  (first | refine EvO.T rfl rfl rfl rfl ?_ | refine EvO.L rfl rfl rfl rfl ?_ | refine EvO.N rfl rfl rfl ?_ | refine EvO.offT rfl rfl ?_ | refine EvO.offL rfl rfl ?_)
  refine EvO.load (k := k) (ver := v) (off := 4) rfl rfl rfl hm3 (d := .int .i64 (l.length : Nat)) (by rw [hd4]; rfl) ?_
  repeat (first | refine EvO.T rfl rfl rfl rfl ?_ | refine EvO.L rfl rfl rfl rfl ?_ | refine EvO.N rfl rfl rfl ?_ | refine EvO.offT rfl rfl ?_ | refine EvO.offL rfl rfl ?_)
  refine EvO.nil ?_
  dsimp only [Fr.putO, Fr.put, Fr.clean, Fr.ev, Fr.get, nth, Go.V.look, List.set_cons_succ, List.set_cons_zero, ofVal_int, ofVal_bool, ofVal_str, ofVal_nul, ofVal_pnil, ofVal_nilfn, ofVal_nilif, List.length, List.cons_append, List.nil_append, List.append_nil, Nat.reduceSub, Nat.reduceAdd, List.map, List.map_cons, List.map_nil]
  try subst hK
  try change EvC _ _ _ _ _ _
  try change EvC _ _ _ _ _ _
  repeat refine EvC.seq ?_
  refine EvC.cond rfl (fun h1 => ?_) (fun h1 => ?_) <;> try simp only [decide_eq_true_eq, decide_eq_false_iff_not, beq_iff_eq, beq_eq_false_iff_ne, bne_iff_ne, bne_eq_false_iff_eq, ne_eq, Bool.not_eq_true', Bool.not_eq_false', Bool.not_eq_true, Bool.not_eq_false] at h1
  · refine EvC.skip ?_
    try change EvC _ _ _ _ _ _
    obtain ⟨c0, l, rfl⟩ : ∃ a b, l = a :: b := by cases l with | nil => simp at h1 | cons a b => exact ⟨a, b, rfl⟩
    obtain ⟨f, rfl⟩ : ∃ f', f = f' + 1 := ⟨f - 1, by simp only [List.length_cons] at hlf; omega⟩
    have hl5 := hl4
    rw [List.length_append] at hl5
    have hne : (c0 :: l) ≠ [] := by simp
    have hbeg : begunS (c0 :: l) = (firstS (c0 :: l)).2.2 := rfl
    generalize hll : c0 :: l = ll at *
    have htell : tellF (f + 1) ll = if begunS ll = true then ([], ll) else (oneS ll :: (tellF f (ll.drop (oneS ll).2)).1, (tellF f (ll.drop (oneS ll).2)).2) := by rw [← hll]; rfl
    have hjF : jF (f + 1) ll j = if begunS ll = true then j else jF f (ll.drop (oneS ll).2) ((ll ++ j).drop (ll.length - (oneS ll).2)) := by rw [← hll]; rfl
    have hcl5 := decC_len hl4
    have hsub := bytes_sub (st := st') (l := 0) (r := ll.length) hm3 (Nat.zero_le _) (by rw [List.length_append]; omega)
    rw [List.take_left, List.drop_zero] at hsub
    try change EvC _ _ _ _ _ _
    repeat refine EvC.seq ?_
    refine EvC.block ?_
    try change EvC _ _ _ _ _ _
    repeat refine EvC.seq ?_
    try generalize hK : SeqQ _ _ _ _ = K
    refine EvC.reg ?_
    (first | refine EvO.T rfl rfl rfl rfl ?_ | refine EvO.L rfl rfl rfl rfl ?_ | refine EvO.N rfl rfl rfl ?_ | refine EvO.offT rfl rfl ?_ | refine EvO.offL rfl rfl ?_)
    (first | refine EvO.T rfl rfl rfl rfl ?_ | refine EvO.L rfl rfl rfl rfl ?_ | refine EvO.N rfl rfl rfl ?_ | refine EvO.offT rfl rfl ?_ | refine EvO.offL rfl rfl ?_)
    (first | refine EvO.T rfl rfl rfl rfl ?_ | refine EvO.L rfl rfl rfl rfl ?_ | refine EvO.N rfl rfl rfl ?_ | refine EvO.offT rfl rfl ?_ | refine EvO.offL rfl rfl ?_)
    (first | refine EvO.T rfl rfl rfl rfl ?_ | refine EvO.L rfl rfl rfl rfl ?_ | refine EvO.N rfl rfl rfl ?_ | refine EvO.offT rfl rfl ?_ | refine EvO.offL rfl rfl ?_)
    (first | refine EvO.T rfl rfl rfl rfl ?_ | refine EvO.L rfl rfl rfl rfl ?_ | refine EvO.N rfl rfl rfl ?_ | refine EvO.offT rfl rfl ?_ | refine EvO.offL rfl rfl ?_)
    (first | refine EvO.T rfl rfl rfl rfl ?_ | refine EvO.L rfl rfl rfl rfl ?_ | refine EvO.N rfl rfl rfl ?_ | refine EvO.offT rfl rfl ?_ | refine EvO.offL rfl rfl ?_)
    refine EvO.load (k := k) (ver := v) (off := 4) rfl rfl rfl hm3 (d := .int .i64 (ll.length : Nat)) (by rw [hd4]; rfl) ?_
    refine EvO.sliceArr (l := 0) (r := ll.length) rfl rfl rfl rfl rfl hm3 (by rw [hcl5]; decide) ?_ ?_
    · show boundsD 4 none (some (.int .i64 (ll.length : Nat))) = _
      simp only [boundsD, optBound, boundD]
      rw [if_pos ⟨by omega, by omega⟩]; rfl
    refine EvO.callT rfl rfl rfl (d := .tup [.int .i32 ((firstS ll).1 : Nat), .int .i64 ((firstS ll).2.1 : Nat), .bool (firstS ll).2.2]) (st1 := st') (first_ev hsub) ?_
    repeat (first | refine EvO.T rfl rfl rfl rfl ?_ | refine EvO.L rfl rfl rfl rfl ?_ | refine EvO.N rfl rfl rfl ?_ | refine EvO.offT rfl rfl ?_ | refine EvO.offL rfl rfl ?_)
    refine EvO.nil ?_
    dsimp only [Fr.putO, Fr.put, Fr.clean, Fr.ev, Fr.get, nth, Go.V.look, List.set_cons_succ, List.set_cons_zero, ofVal_int, ofVal_bool, ofVal_str, ofVal_nul, ofVal_pnil, ofVal_nilfn, ofVal_nilif, List.length, List.cons_append, List.nil_append, List.append_nil, Nat.reduceSub, Nat.reduceAdd, List.map, List.map_cons, List.map_nil]
    try subst hK
    try change EvC _ _ _ _ _ _
    try change EvC _ _ _ _ _ _
    repeat refine EvC.seq ?_
    try generalize hK : SeqQ _ _ _ _ = K
    refine EvC.reg ?_
    repeat (first | refine EvO.T rfl rfl rfl rfl ?_ | refine EvO.L rfl rfl rfl rfl ?_ | refine EvO.N rfl rfl rfl ?_ | refine EvO.offT rfl rfl ?_ | refine EvO.offL rfl rfl ?_)
    refine EvO.nil ?_
    dsimp only [Fr.putO, Fr.put, Fr.clean, Fr.ev, Fr.get, nth, Go.V.look, List.set_cons_succ, List.set_cons_zero, ofVal_int, ofVal_bool, ofVal_str, ofVal_nul, ofVal_pnil, ofVal_nilfn, ofVal_nilif, List.length, List.cons_append, List.nil_append, List.append_nil, Nat.reduceSub, Nat.reduceAdd, List.map, List.map_cons, List.map_nil]
    try subst hK
    try change EvC _ _ _ _ _ _
    try change EvC _ _ _ _ _ _
    repeat refine EvC.seq ?_
    refine EvC.cond rfl (fun h2 => ?_) (fun h2 => ?_) <;> try simp only [decide_eq_true_eq, decide_eq_false_iff_not, beq_iff_eq, beq_eq_false_iff_ne, bne_iff_ne, bne_eq_false_iff_eq, ne_eq, Bool.not_eq_true', Bool.not_eq_false', Bool.not_eq_true, Bool.not_eq_false] at h2
    · refine EvC.exit ?_
      rw [← hbeg] at h2
      rw [htell, if_pos h2] at ht1 ht2
      rw [hjF, if_pos h2] at hj
      refine fin st' done out _ _ _ _ j hx hacc ?_ ?_ hj
      · rw [← ht2]; exact hm3
      · rw [← ht1, List.append_nil]
    refine EvC.skip ?_
    try change EvC _ _ _ _ _ _
    have h2' : ¬ begunS ll = true := by rw [hbeg, h2]; simp
    rw [htell, if_neg h2'] at ht1 ht2
    rw [hjF, if_neg h2'] at hj
    have hg4 := oneS_le hne
    have hgp := oneS_pos ll
    generalize hf : firstS ll = F at *
    obtain ⟨r0, n0, bg0⟩ := F
    try change EvC _ _ _ _ _ _
    repeat refine EvC.seq ?_
    try generalize hK : SeqQ _ _ _ _ = K
    refine EvC.reg ?_
    repeat (first | refine EvO.T rfl rfl rfl rfl ?_ | refine EvO.L rfl rfl rfl rfl ?_ | refine EvO.N rfl rfl rfl ?_ | refine EvO.offT rfl rfl ?_ | refine EvO.offL rfl rfl ?_)
    refine EvO.nil ?_
    dsimp only [Fr.putO, Fr.put, Fr.clean, Fr.ev, Fr.get, nth, Go.V.look, List.set_cons_succ, List.set_cons_zero, ofVal_int, ofVal_bool, ofVal_str, ofVal_nul, ofVal_pnil, ofVal_nilfn, ofVal_nilif, List.length, List.cons_append, List.nil_append, List.append_nil, Nat.reduceSub, Nat.reduceAdd, List.map, List.map_cons, List.map_nil]
    try subst hK
    try change EvC _ _ _ _ _ _
    generalize hK : SeqQ _ _ _ _ = K
    have H : ∀ m2, K .next ⟨9, [.ptr k v 0, .int .u8 (c.toNat : Nat), .tup [], .tup [], .nul, out, .int .i32 ((oneS ll).1 : Nat), .int .i64 ((oneS ll).2 : Nat), .bool bg0], m2⟩ st' := by
      intro m2
      subst hK
      generalize hg : oneS ll = g at *
      try change EvC _ _ _ _ _ _
      repeat refine EvC.seq ?_
      try generalize hK : SeqQ _ _ _ _ = K
      refine EvC.reg ?_
      (first | refine EvO.T rfl rfl rfl rfl ?_ | refine EvO.L rfl rfl rfl rfl ?_ | refine EvO.N rfl rfl rfl ?_ | refine EvO.offT rfl rfl ?_ | refine EvO.offL rfl rfl ?_)
      (first | refine EvO.T rfl rfl rfl rfl ?_ | refine EvO.L rfl rfl rfl rfl ?_ | refine EvO.N rfl rfl rfl ?_ | refine EvO.offT rfl rfl ?_ | refine EvO.offL rfl rfl ?_)
      (first | refine EvO.T rfl rfl rfl rfl ?_ | refine EvO.L rfl rfl rfl rfl ?_ | refine EvO.N rfl rfl rfl ?_ | refine EvO.offT rfl rfl ?_ | refine EvO.offL rfl rfl ?_)
      refine EvO.T rfl rfl rfl (d := .agg (gotC g)) (st1 := st') rfl ?_
      refine EvO.T rfl rfl rfl (d := .win st'.bs.length 0 0 1 2) (st1 := st'.push (.mem 0 true (gotC g))) rfl ?_
      refine EvO.append rfl rfl rfl rfl (hacc.push _) (Rows.one rfl) rfl rfl rfl rfl rfl rfl rfl (by decide) (by simp [St.push]; omega) (by show st'.flr ≤ _; omega) (by show st'.ro ≤ _; omega) (by simp only [List.length_map, List.length_cons, List.length_nil]; show (done.length + 1) * 16 ≤ _; omega) fun out' st2 hacc2 hex2 _ hsame _ => ?_
      repeat (first | refine EvO.T rfl rfl rfl rfl ?_ | refine EvO.L rfl rfl rfl rfl ?_ | refine EvO.N rfl rfl rfl ?_ | refine EvO.offT rfl rfl ?_ | refine EvO.offL rfl rfl ?_)
      refine EvO.nil ?_
      dsimp only [Fr.putO, Fr.put, Fr.clean, Fr.ev, Fr.get, nth, Go.V.look, List.set_cons_succ, List.set_cons_zero, ofVal_int, ofVal_bool, ofVal_str, ofVal_nul, ofVal_pnil, ofVal_nilfn, ofVal_nilif, List.length, List.cons_append, List.nil_append, List.append_nil, Nat.reduceSub, Nat.reduceAdd, List.map, List.map_cons, List.map_nil]
      try subst hK
      try change EvC _ _ _ _ _ _
      have hx2 : Exk st.bs.length k (enterSt .rw st) st2 := (hx.of (Ex.push hN (.mem 0 true (gotC g)))).of hex2
      have hm4 : st2.bs[k]? = some (.mem v false (decC ll j)) := by
        rw [hex2.low k (by omega)]
        simp only [St.push]; rw [List.getElem?_append_left (by omega)]; exact hm3
      have hro4 : st2.ro = st.ro := by rw [hx2.ro]; rfl
      try change EvC _ _ _ _ _ _
      repeat refine EvC.seq ?_
      try generalize hK : SeqQ _ _ _ _ = K
      refine EvC.reg ?_
      (first | refine EvO.T rfl rfl rfl rfl ?_ | refine EvO.L rfl rfl rfl rfl ?_ | refine EvO.N rfl rfl rfl ?_ | refine EvO.offT rfl rfl ?_ | refine EvO.offL rfl rfl ?_)
      (first | refine EvO.T rfl rfl rfl rfl ?_ | refine EvO.L rfl rfl rfl rfl ?_ | refine EvO.N rfl rfl rfl ?_ | refine EvO.offT rfl rfl ?_ | refine EvO.offL rfl rfl ?_)
      refine EvO.callT rfl rfl rfl (drop_ev hm4 hl4 hg4 (by omega)) ?_
      repeat (first | refine EvO.T rfl rfl rfl rfl ?_ | refine EvO.L rfl rfl rfl rfl ?_ | refine EvO.N rfl rfl rfl ?_ | refine EvO.offT rfl rfl ?_ | refine EvO.offL rfl rfl ?_)
      refine EvO.nil ?_
      dsimp only [Fr.putO, Fr.put, Fr.clean, Fr.ev, Fr.get, nth, Go.V.look, List.set_cons_succ, List.set_cons_zero, ofVal_int, ofVal_bool, ofVal_str, ofVal_nul, ofVal_pnil, ofVal_nilfn, ofVal_nilif, List.length, List.cons_append, List.nil_append, List.append_nil, Nat.reduceSub, Nat.reduceAdd, List.map, List.map_cons, List.map_nil]
      try subst hK
      try change EvC _ _ _ _ _ _
      have hk2 : k < st2.bs.length := by have := hx2.len; have e : (enterSt .rw st).bs.length = st.bs.length := rfl; omega
      refine ⟨(ll.drop g.2).length, by rw [List.length_drop]; omega, f, ll.drop g.2, (ll ++ j).drop (ll.length - g.2), done ++ [g], out', _, _, _, rfl, List.getElem?_set_self hk2, ?_, hx2.put _, ?_, rfl, ?_, ?_, ht2, hj, ?_⟩
      · rw [List.length_append, List.length_drop, List.length_drop, hl4]; omega
      · rw [List.map_append]
        exact acc_setLow hkl hacc2 _
      · rw [List.length_drop]; omega
      · rw [← ht1, List.append_assoc, List.singleton_append]
      · rw [List.length_append, List.length_drop]; simp only [List.length_cons, List.length_nil]; omega
    try change EvC _ _ _ _ _ _
    repeat refine EvC.seq ?_
    refine EvC.cond rfl (fun h5 => ?_) (fun h5 => ?_) <;> try simp only [decide_eq_true_eq, decide_eq_false_iff_not, beq_iff_eq, beq_eq_false_iff_ne, bne_iff_ne, bne_eq_false_iff_eq, ne_eq, Bool.not_eq_true', Bool.not_eq_false', Bool.not_eq_true, Bool.not_eq_false] at h5
    · refine EvC.reg ?_
      repeat (first | refine EvO.T rfl rfl rfl rfl ?_ | refine EvO.L rfl rfl rfl rfl ?_ | refine EvO.N rfl rfl rfl ?_ | refine EvO.offT rfl rfl ?_ | refine EvO.offL rfl rfl ?_)
      refine EvO.nil ?_
      dsimp only [Fr.putO, Fr.put, Fr.clean, Fr.ev, Fr.get, nth, Go.V.look, List.set_cons_succ, List.set_cons_zero, ofVal_int, ofVal_bool, ofVal_str, ofVal_nul, ofVal_pnil, ofVal_nilfn, ofVal_nilif, List.length, List.cons_append, List.nil_append, List.append_nil, Nat.reduceSub, Nat.reduceAdd, List.map, List.map_cons, List.map_nil]
      have : oneS ll = (65533, 1) := by unfold oneS; rw [hf, if_pos (by simpa using h5)]
      rw [this] at H
      exact H _
    · refine EvC.skip ?_
      have : oneS ll = (r0, n0) := by unfold oneS; rw [hf, if_neg (by simpa using h5)]
      rw [this] at H
      exact H _
  · refine EvC.exit ?_
    obtain rfl : l = [] := by cases l with | nil => rfl | cons a b => simp at h1 <;> omega
    refine fin st' done out r n bg _ j hx hacc ?_ ?_ ?_
    · have : (byteS h c).2 = [] := by rw [← ht2]; cases f <;> rfl
      rw [this]; exact hm3
    · have : (tellF f ([] : List UInt8)).1 = [] := by cases f <;> rfl
      rw [← ht1, this, List.append_nil]
    · rw [← hj]; cases f <;> rfl
end Go.Proofs.Ytlljdbhefepheaa
