import Derived.Test.YtlljdbhefepheaaUj
namespace Go.Proofs.Ytlljdbhefepheaa
open Go.V Go
set_option maxRecDepth 100000
set_option maxHeartbeats 4000000
set_option linter.unusedSimpArgs false
set_option linter.unusedVariables false

/-- a decoder's cells: it holds h, j stands behind -/
def decC (h j : List UInt8) : List D := (h ++ j).map u8D ++ [.int .i64 (h.length : Nat)]

theorem decC_len {h j : List UInt8} (hl : (h ++ j).length = 4) : (decC h j).length = 5 := by simp [decC] at hl ⊢; omega
theorem decC_drop {h j : List UInt8} (hl : (h ++ j).length = 4) : (decC h j).drop 4 = [.int .i64 (h.length : Nat)] := by
  unfold decC
  have : ((h ++ j).map u8D).length = 4 := by rw [List.length_map, hl]
  rw [← this, List.drop_left]

theorem bytes_sub {st : St} {k v : Nat} {ar : Bool} {b : List UInt8} {rest : List D} (hm : st.bs[k]? = some (.mem v ar (b.map u8D ++ rest))) {l r : Nat} (hlr : l ≤ r) (hr : r ≤ b.length) : Bytes st (.win k v l (r - l) 1) ((b.take r).drop l) := by
  have hlen : ((b.take r).drop l).length = r - l := by simp; omega
  have := Rows.win (st := st) (s := 1) k v l (byteCells ((b.take r).drop l)) ar (b.map u8D ++ rest) (St.mem_of hm) (by rw [byteCells_len, hlen]; simp; omega) fun i e hi => by
    simp only [byteCells, List.getElem?_map] at hi
    obtain ⟨y, hy, rfl⟩ := Option.map_eq_some_iff.1 hi
    rw [List.getElem?_drop, List.getElem?_take] at hy
    split at hy
    · rename_i hlt
      have hb : b[l + i * 1]? = some y := by rw [Nat.mul_one]; exact hy
      have h2 : (b.map u8D ++ rest)[l + i * 1]? = some (u8D y) := by
        rw [List.getElem?_append_left (by rw [List.length_map]; omega), List.getElem?_map, hb]; rfl
      rw [List.take_one, List.head?_drop, h2]; rfl
    · cases hy
  rw [byteCells_len, hlen] at this
  exact this

theorem drop_ev {st : St} {k v n : Nat} {h j : List UInt8} (hm : st.bs[k]? = some (.mem v false (decC h j))) (hl : (h ++ j).length = 4) (hn : n ≤ h.length) (hro : st.ro ≤ k) :
    Ev pv 25 [.ptr k v 0, .int .i64 (n : Nat)] st (.tup []) ⟨st.bs.set k (.mem v false (decC (h.drop n) ((h ++ j).drop (h.length - n)))), st.flr, st.ro⟩ := by
  refine Ev.mk1 rfl fi25 rfl rfl rfl ?_
  dsimp only [List.cons_append, List.nil_append, List.length, Nat.reduceSub, Nat.reduceAdd, List.replicate_succ, List.replicate_zero]
  have hm0 : (enterSt .rw st).bs[k]? = some (.mem v false (decC h j)) := hm
  have hkl : k < st.bs.length := by
    rcases Nat.lt_or_ge k st.bs.length with h' | h'
    · exact h'
    · rw [List.getElem?_eq_none h'] at hm; cases hm
  have hl2 := hl
  rw [List.length_append] at hl2
  have hcl := decC_len hl
  have hcd := decC_drop hl
  have hcan : ∀ S : St, S.ro = st.ro → S.canW k 0 = true := fun S hS => canW_flat (by omega)
  try change EvC _ _ _ _ _
  repeat refine EvC.seq ?_
  try generalize hK : SeqQ _ _ _ = K
  refine EvC.reg ?_
  (first | refine EvO.T rfl rfl rfl rfl ?_ | refine EvO.L rfl rfl rfl rfl ?_ | refine EvO.N rfl rfl rfl ?_ | refine EvO.offT rfl rfl ?_ | refine EvO.offL rfl rfl ?_)
  (first | refine EvO.T rfl rfl rfl rfl ?_ | refine EvO.L rfl rfl rfl rfl ?_ | refine EvO.N rfl rfl rfl ?_ | refine EvO.offT rfl rfl ?_ | refine EvO.offL rfl rfl ?_)
  (first | refine EvO.T rfl rfl rfl rfl ?_ | refine EvO.L rfl rfl rfl rfl ?_ | refine EvO.N rfl rfl rfl ?_ | refine EvO.offT rfl rfl ?_ | refine EvO.offL rfl rfl ?_)
  refine EvO.sliceArr (l := 0) (r := 4) rfl rfl rfl rfl rfl hm0 (by rw [hcl]; decide) rfl ?_
  (first | refine EvO.T rfl rfl rfl rfl ?_ | refine EvO.L rfl rfl rfl rfl ?_ | refine EvO.N rfl rfl rfl ?_ | refine EvO.offT rfl rfl ?_ | refine EvO.offL rfl rfl ?_)
  (first | refine EvO.T rfl rfl rfl rfl ?_ | refine EvO.L rfl rfl rfl rfl ?_ | refine EvO.N rfl rfl rfl ?_ | refine EvO.offT rfl rfl ?_ | refine EvO.offL rfl rfl ?_)
  (first | refine EvO.T rfl rfl rfl rfl ?_ | refine EvO.L rfl rfl rfl rfl ?_ | refine EvO.N rfl rfl rfl ?_ | refine EvO.offT rfl rfl ?_ | refine EvO.offL rfl rfl ?_)
  (first | refine EvO.T rfl rfl rfl rfl ?_ | refine EvO.L rfl rfl rfl rfl ?_ | refine EvO.N rfl rfl rfl ?_ | refine EvO.offT rfl rfl ?_ | refine EvO.offL rfl rfl ?_)
  (first | refine EvO.T rfl rfl rfl rfl ?_ | refine EvO.L rfl rfl rfl rfl ?_ | refine EvO.N rfl rfl rfl ?_ | refine EvO.offT rfl rfl ?_ | refine EvO.offL rfl rfl ?_)
  (first | refine EvO.T rfl rfl rfl rfl ?_ | refine EvO.L rfl rfl rfl rfl ?_ | refine EvO.N rfl rfl rfl ?_ | refine EvO.offT rfl rfl ?_ | refine EvO.offL rfl rfl ?_)
  (first | refine EvO.T rfl rfl rfl rfl ?_ | refine EvO.L rfl rfl rfl rfl ?_ | refine EvO.N rfl rfl rfl ?_ | refine EvO.offT rfl rfl ?_ | refine EvO.offL rfl rfl ?_)
  refine EvO.load (k := k) (ver := v) (off := 4) rfl rfl rfl hm0 (d := .int .i64 (h.length : Nat)) (by rw [hcd]; rfl) ?_
  refine EvO.sliceArr (l := n) (r := h.length) rfl rfl rfl rfl rfl hm0 (by rw [hcl]; decide) ?_ ?_
  · show boundsD 4 (some (.int .i64 (n : Nat))) (some (.int .i64 (h.length : Nat))) = _
    simp only [boundsD, optBound, boundD]
    rw [if_pos ⟨by omega, by omega⟩]
    simp only [Option.bind_some]
    rw [if_pos ⟨by omega, by omega⟩]; rfl
  have hsrc := bytes_sub (st := enterSt .rw st) (l := n) (r := h.length) hm0 hn (by rw [hl]; omega)
  rw [List.take_left] at hsrc
  refine EvO.copy (k := k) (ver := v) (off := 0) (len := 4) (s := 1) (ys := byteCells (h.drop n)) (ar := false) (c := decC h j) rfl rfl rfl (by show D.win k v (0 + n * 1) (h.length - n) 1 = D.win k v n (h.length - n) 1; congr 1; omega) hsrc rfl rfl hm0 (by rw [hcl]; decide) ?_ ?_
  · rw [byteCells_flat]
    have : ∀ (b : List UInt8) m, refs ((b.map u8D).take m) = 0 := by
      intro b m
      induction b generalizing m with
      | nil => simp [refs]
      | cons y b ih => cases m with
        | zero => simp [refs]
        | succ m => simp only [List.map_cons, List.take_succ_cons, refs, ih]; rfl
    rw [this]
    exact hcan _ rfl
  have hc1 : (decC h j).take 0 ++ (byteCells (h.drop n)).flatten.take (min (byteCells (h.drop n)).length 4 * 1) ++ (decC h j).drop (0 + min (byteCells (h.drop n)).length 4 * 1) = (h.drop n ++ (h ++ j).drop (h.length - n)).map u8D ++ [.int .i64 (h.length : Nat)] := by
    have e1 : min (byteCells (h.drop n)).length 4 * 1 = h.length - n := by rw [byteCells_len, List.length_drop]; omega
    rw [e1, byteCells_flat, List.take_zero, List.nil_append, Nat.zero_add]
    have e2 : ((h.drop n).map u8D).take (h.length - n) = (h.drop n).map u8D := List.take_of_length_le (by rw [List.length_map, List.length_drop]; omega)
    rw [e2]
    unfold decC
    rw [List.drop_append_of_le_length (by rw [List.length_map, hl]; omega), ← List.map_drop, List.map_append, List.append_assoc]
  rw [hc1]
  generalize hj' : (h ++ j).drop (h.length - n) = j'
  have hl3 : (h.drop n ++ j').length = 4 := by rw [← hj', List.length_append, List.length_drop, List.length_drop, hl]; omega
  refine EvO.nil ?_
  dsimp only [Fr.putO, Fr.put, Fr.clean, Fr.ev, Fr.get, nth, Go.V.look, List.set_cons_succ, List.set_cons_zero, ofVal_int, ofVal_bool, ofVal_str, ofVal_nul, ofVal_pnil, ofVal_nilfn, ofVal_nilif, List.length, List.cons_append, List.nil_append, List.append_nil, Nat.reduceSub, Nat.reduceAdd, List.map, List.map_cons, List.map_nil]
  try subst hK
  try change EvC _ _ _ _ _
  have hm1 : ((enterSt .rw st).bs.set k (.mem v false ((h.drop n ++ j').map u8D ++ [.int .i64 (h.length : Nat)])))[k]? = some (.mem v false ((h.drop n ++ j').map u8D ++ [.int .i64 (h.length : Nat)])) := by
    rw [List.getElem?_set_self (by exact hkl)]
  have hmap : ((h.drop n ++ j').map u8D).length = 4 := by rw [List.length_map, hl3]
  generalize hS : (⟨(enterSt .rw st).bs.set k (.mem v false ((h.drop n ++ j').map u8D ++ [.int .i64 (h.length : Nat)])), (enterSt .rw st).flr, (enterSt .rw st).ro⟩ : St) = S
  have hm2 : S.bs[k]? = some (.mem v false ((h.drop n ++ j').map u8D ++ [.int .i64 (h.length : Nat)])) := by subst hS; exact hm1
  refine EvC.reg ?_
  (first | refine EvO.T rfl rfl rfl rfl ?_ | refine EvO.L rfl rfl rfl rfl ?_ | refine EvO.N rfl rfl rfl ?_ | refine EvO.offT rfl rfl ?_ | refine EvO.offL rfl rfl ?_)
  (first | refine EvO.T rfl rfl rfl rfl ?_ | refine EvO.L rfl rfl rfl rfl ?_ | refine EvO.N rfl rfl rfl ?_ | refine EvO.offT rfl rfl ?_ | refine EvO.offL rfl rfl ?_)
  (first | refine EvO.T rfl rfl rfl rfl ?_ | refine EvO.L rfl rfl rfl rfl ?_ | refine EvO.N rfl rfl rfl ?_ | refine EvO.offT rfl rfl ?_ | refine EvO.offL rfl rfl ?_)
  refine EvO.load (k := k) (ver := v) (off := 4) rfl rfl rfl hm2 (d := .int .i64 (h.length : Nat)) (by rw [← hmap, List.drop_left]; rfl) ?_
  (first | refine EvO.T rfl rfl rfl rfl ?_ | refine EvO.L rfl rfl rfl rfl ?_ | refine EvO.N rfl rfl rfl ?_ | refine EvO.offT rfl rfl ?_ | refine EvO.offL rfl rfl ?_)
  (first | refine EvO.T rfl rfl rfl rfl ?_ | refine EvO.L rfl rfl rfl rfl ?_ | refine EvO.N rfl rfl rfl ?_ | refine EvO.offT rfl rfl ?_ | refine EvO.offL rfl rfl ?_)
  rw [wrap_i64 (by omega) (by omega)]
  (first | refine EvO.T rfl rfl rfl rfl ?_ | refine EvO.L rfl rfl rfl rfl ?_ | refine EvO.N rfl rfl rfl ?_ | refine EvO.offT rfl rfl ?_ | refine EvO.offL rfl rfl ?_)
  (first | refine EvO.T rfl rfl rfl rfl ?_ | refine EvO.L rfl rfl rfl rfl ?_ | refine EvO.N rfl rfl rfl ?_ | refine EvO.offT rfl rfl ?_ | refine EvO.offL rfl rfl ?_)
  refine EvO.store (k := k) (ver := v) (off := 4) (cs := [.int .i64 ((h.length : Nat) - (n : Nat) : Int)]) rfl rfl rfl rfl rfl hm2 (by rw [List.length_append, hmap]; exact Nat.le_refl _) (hcan S (by subst hS; rfl)) ?_
  refine EvO.nil ⟨fun i h => (by cases h), [], rfl, leave_rw ?_ rfl⟩
  subst hS
  simp only [enterSt, List.set_set]
  rw [List.take_of_length_le (by simp)]
  congr 2
  unfold decC
  rw [List.take_left' hmap, List.length_drop]
  have : (((h.drop n ++ j').map u8D ++ [D.int .i64 (h.length : Nat)]).drop (4 + [D.int .i64 ((h.length : Nat) - (n : Nat) : Int)].length)) = [] := List.drop_eq_nil_of_le (by simp [hmap]; simp at hmap; omega)
  have e4 : ((h.length : Nat) : Int) - (n : Nat) = ((h.length - n : Nat) : Int) := by omega
  rw [this, List.append_nil, e4, hj']
end Go.Proofs.Ytlljdbhefepheaa
