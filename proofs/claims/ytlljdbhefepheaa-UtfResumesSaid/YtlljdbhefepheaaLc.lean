/-
  States that grow; slices, appends, what is told of a list of one's own.
-/
import Derived.Test.YtlljdbhefepheaaLb
namespace Go.V
set_option linter.unusedSimpArgs false
set_option linter.unusedVariables false
set_option linter.unusedSectionVars false

/-- below N all is as it was -/
structure Ex (N : Nat) (st st' : St) : Prop where
  low : ∀ k, k < N → st'.bs[k]? = st.bs[k]?
  len : st.bs.length ≤ st'.bs.length
  flr : st'.flr = st.flr
  ro : st'.ro = st.ro

theorem Ex.refl (N : Nat) (st : St) : Ex N st st := ⟨fun _ _ => rfl, Nat.le_refl _, rfl, rfl⟩
theorem Ex.trans {N : Nat} {a b c : St} (h : Ex N a b) (g : Ex N b c) : Ex N a c :=
  ⟨fun k hk => (g.low k hk).trans (h.low k hk), Nat.le_trans h.len g.len, g.flr.trans h.flr, g.ro.trans h.ro⟩
theorem Ex.push {N : Nat} {st : St} (h : N ≤ st.bs.length) (b : Box) : Ex N st (st.push b) :=
  ⟨fun k hk => by simp only [St.push]; rw [List.getElem?_append_left (by omega)], by simp [St.push], rfl, rfl⟩
theorem Ex.set {N : Nat} {st : St} {k : Nat} (h : N ≤ k) (b : Box) : Ex N st { st with bs := st.bs.set k b } :=
  ⟨fun j hj => by simp only; rw [List.getElem?_set_ne (by omega)], by simp, rfl, rfl⟩
theorem Ex.take {N : Nat} {st st' : St} (h : Ex N st st') (hN : N = st.bs.length) : st'.bs.take N = st.bs := by
  apply List.ext_getElem?
  intro k
  rw [List.getElem?_take]
  split
  · exact h.low k (by assumption)
  · rw [List.getElem?_eq_none (by omega)]

theorem Ex.mem {N : Nat} {st st' : St} (h : Ex N st st') {k v : Nat} (hk : k < N) : st'.mem? k v = st.mem? k v := by
  simp only [St.mem?, h.low k hk]

theorem Rows.ex {N : Nat} {st st' : St} (h : Ex N st st') {s : Nat} {x : D} {es : List (List D)} (hr : Rows st s x es) (hx : x.ref ≤ N) : Rows st' s x es := by
  cases hr with
  | nul => exact .nul
  | sl es h => exact .sl es h
  | win k ver off es ar c hm hl he => exact .win k ver off es ar c (by rw [h.mem (by simp only [D.ref] at hx; omega)]; exact hm) hl he

/-- a slice of a row -/
theorem Rows.slice {P : Pv} {st : St} {s : Nat} {x : D} {es : List (List D)} (h : Rows st s x es) {t e : TypeId} (ht : P.und t = some (.slice e)) (hs : szOf P e = some s) {lo hi : Option D} {l r : Nat} (hb : boundsD es.length lo hi = some (l, r)) (hlr : l ≤ r ∧ r ≤ es.length) :
    ∃ y, sliceD P t x lo hi st = some y ∧ Rows st s y ((es.take r).drop l) ∧ y.ref ≤ x.ref := by
  cases h with
  | nul =>
    refine ⟨.nul, ?_, ?_, Nat.le_refl _⟩
    · simp only [sliceD, ht, hs, Option.bind_some]
      simp only [List.length_nil] at hb
      rw [hb]; rfl
    · simp; exact .nul
  | sl es h =>
    refine ⟨.sl ((es.take r).drop l), ?_, ?_, by simp [D.ref]⟩
    · simp only [sliceD, ht, hs, Option.bind_some]
      have : headOk s es = true := by
        cases es with
        | nil => rfl
        | cons e es => obtain ⟨h1, h2⟩ := h e (List.mem_cons_self ..); simp [headOk, h1, h2]
      rw [if_pos this]
      simp only [List.length_map] at hb
      rw [hb]; rfl
    · have := Rows.sl (st := st) (s := s) ((es.take r).drop l) fun e he => h e (List.mem_of_mem_take (List.mem_of_mem_drop he))
      simpa [List.map_drop, List.map_take] using this
  | win k ver off es ar c hm hl he =>
    have hlen : ((es.take r).drop l).length = r - l := by simp; omega
    refine ⟨.win k ver (off + l * s) (r - l) s, ?_, ?_, by simp [D.ref]⟩
    · simp only [sliceD, ht, hs, Option.bind_some, if_true, hb]; rfl
    · have h1 : l * s + (r - l) * s ≤ es.length * s := by rw [← Nat.add_mul]; exact Nat.mul_le_mul_right s (by omega)
      have := Rows.win (st := st) (s := s) k ver (off + l * s) ((es.take r).drop l) ar c hm (by rw [hlen]; omega) (fun i e hi => by
        rw [List.getElem?_drop, List.getElem?_take] at hi
        split at hi
        · have := he _ _ hi
          rw [← this, Nat.add_mul]; congr 2; omega
        · cases hi)
      rwa [hlen] at this

/-- a list of one's own that is appended to: its box is no elder than N -/
inductive Acc (N : Nat) (st : St) (s : Nat) : D → List (List D) → Prop where
  | nul : Acc N st s .nul []
  | win (k ver : Nat) (es : List (List D)) (hN : N ≤ k) (hm : st.bs[k]? = some (.mem ver true es.flatten)) (he : ∀ e ∈ es, e.length = s) : Acc N st s (.win k ver 0 es.length s) es

theorem flat_len {s : Nat} : ∀ {es : List (List D)}, (∀ e ∈ es, e.length = s) → es.flatten.length = es.length * s
  | [], _ => by simp
  | e :: es, h => by
    have := flat_len (s := s) (es := es) fun x hx => h x (List.mem_cons_of_mem _ hx)
    simp only [List.flatten_cons, List.length_append, List.length_cons, this, h e (List.mem_cons_self ..)]
    rw [Nat.add_mul]; omega

theorem flat_at {s : Nat} : ∀ {es : List (List D)}, (∀ e ∈ es, e.length = s) → ∀ (i : Nat) e, es[i]? = some e → (es.flatten.drop (i * s)).take s = e
  | [], _, i, e, h => by simp at h
  | x :: es, h, 0, e, hi => by
    simp at hi; subst hi
    have := h x (List.mem_cons_self ..)
    simp [List.take_left' this]
  | x :: es, h, i + 1, e, hi => by
    simp only [List.getElem?_cons_succ] at hi
    have hx := h x (List.mem_cons_self ..)
    have := flat_at (s := s) (es := es) (fun y hy => h y (List.mem_cons_of_mem _ hy)) i e hi
    rw [← this, List.flatten_cons, Nat.add_mul, Nat.one_mul, Nat.add_comm, ← hx, ← List.drop_drop, List.drop_left]

theorem St.mem_of {st : St} {k ver : Nat} {ar : Bool} {c : List D} (h : st.bs[k]? = some (.mem ver ar c)) : st.mem? k ver = some (ar, c) := by
  simp only [St.mem?, h, if_true]

theorem Acc.rows {N : Nat} {st : St} {s : Nat} {x : D} {es : List (List D)} (h : Acc N st s x es) : Rows st s x es := by
  cases h with
  | nul => exact .nul
  | win k ver es hN hm he =>
    exact .win k ver 0 es true es.flatten (St.mem_of hm) (by rw [flat_len he]; omega) fun i e hi => by rw [Nat.zero_add]; exact flat_at he i e hi

/-- the boxes of an accumulator stay -/
theorem Acc.ex {N M : Nat} {st st' : St} (h : Ex M st st') {s : Nat} {x : D} {es : List (List D)} (hr : Acc N st s x es) (hx : x.ref ≤ M) : Acc N st' s x es := by
  cases hr with
  | nul => exact .nul
  | win k ver es hN hm he => exact .win k ver es hN (by rw [h.low k (by simp only [D.ref] at hx; omega)]; exact hm) he

theorem Acc.push {N : Nat} {st : St} {s : Nat} {x : D} {es : List (List D)} (hr : Acc N st s x es) (b : Box) : Acc N (st.push b) s x es := by
  cases hr with
  | nul => exact .nul
  | win k ver es hN hm he =>
    refine .win k ver es hN ?_ he
    simp only [St.push]
    rw [List.getElem?_append_left]; exact hm
    rcases Nat.lt_or_ge k st.bs.length with h' | h'
    · exact h'
    · rw [List.getElem?_eq_none h'] at hm; cases hm

theorem Rows.row {st : St} {s : Nat} {x : D} {es : List (List D)} (h : Rows st s x es) : rowD st x = some (es.length, es.flatten) := by
  have hl := h.elen
  cases h with
  | nul => rfl
  | sl es h =>
    simp only [rowD, List.length_map]
    rw [List.flatMap_def]
  | win k ver off es ar c hm hl' he =>
    simp only [rowD, hm, Option.bind_some, if_pos hl']
    congr 2
    have key : ∀ (es : List (List D)) (c : List D), es.length * s ≤ c.length → (∀ (i : Nat) e, es[i]? = some e → (c.drop (i * s)).take s = e) → c.take (es.length * s) = es.flatten := by
      intro es
      induction es with
      | nil => intro c _ _; simp
      | cons e es ih =>
        intro c hc hx
        have h0 := hx 0 e rfl
        simp only [Nat.zero_mul, List.drop_zero] at h0
        rw [List.flatten_cons, List.length_cons, Nat.add_mul, Nat.one_mul, Nat.add_comm, List.take_add, h0]
        congr 1
        simp only [List.length_cons, Nat.add_mul, Nat.one_mul] at hc
        refine ih (c.drop s) (by simp; omega) fun i e hi => ?_
        rw [List.drop_drop, ← hx (i + 1) e (by simpa using hi), Nat.add_mul, Nat.one_mul, Nat.add_comm]
    refine key es (c.drop off) (by simp; omega) fun i e hi => ?_
    rw [List.drop_drop]; exact he i e hi

/-- one more append -/
theorem Acc.append {P : Pv} {N : Nat} {st : St} {s : Nat} {x y : D} {es ys : List (List D)} (hr : Acc N st s x es) (hy : Rows st s y ys) {t1 t2 e : TypeId} {td : TypeDesc} {inf : TypeInfo} {z : List D}
    (h1 : P.und t1 = some (.slice e)) (h2 : P.und t2 = some td) (h3 : isIntT td = false) (h4 : P.info e = some inf) (h5 : zeroC P e = some z) (h6 : inf.size = s) (h7 : z.length = s) (h8 : inf.bytes ≠ 0)
    (hN : N ≤ st.bs.length) (hf : st.flr ≤ N) (hro : st.ro ≤ N) (hb : (es.length + ys.length) * inf.bytes ≤ 1099511627776) :
    ∃ x' st', builtinD P .append [t1, t2] [x, y] st = some (x', st') ∧ Acc N st' s x' (es ++ ys) ∧ Ex N st st' ∧ x'.ref ≤ st'.bs.length ∧ (∀ k, k < st.bs.length → k + 1 ≠ x.ref → st'.bs[k]? = st.bs[k]?) ∧ (x'.ref = x.ref ∨ st.bs.length < x'.ref) := by
  have hrow := hy.row
  have hyl : ∀ e ∈ ys, e.length = s := fun e he => by
    obtain ⟨i, hi⟩ := List.getElem?_of_mem he
    exact hy.elen i e hi
  have hfl := flat_len hyl
  subst h6
  simp only [builtinD, appendD, h1, h2, h3, Bool.false_eq_true, if_false, h4, h5, hrow, Option.bind_some]
  rw [if_neg (by rintro (h | h | h); exact h hfl; exact h8 h; exact h h7)]
  cases hr with
  | nul =>
    simp only [List.nil_append]
    by_cases h0 : ys.length = 0
    · rw [if_pos h0]
      have : ys = [] := by cases ys with | nil => rfl | cons _ _ => simp at h0
      subst this
      exact ⟨.nul, st, rfl, .nul, Ex.refl _ _, by simp [D.ref], fun _ _ _ => rfl, .inl rfl⟩
    · rw [if_neg h0, if_pos (by simpa using hb)]
      refine ⟨_, _, rfl, ?_, Ex.push hN _, by simp [D.ref, St.push], fun k hk _ => by simp only [St.push]; rw [List.getElem?_append_left hk], .inr (by simp [D.ref])⟩
      exact .win _ _ ys hN (by simp [St.push]) hyl
  | win k ver es hk hm he =>
    have hkl : k < st.bs.length := by
      rcases Nat.lt_or_ge k st.bs.length with h' | h'
      · exact h'
      · rw [List.getElem?_eq_none h'] at hm; cases hm
    simp only [St.mem_of hm]
    rw [if_neg (by rintro (h | h); exact h rfl; rw [flat_len he] at h; omega)]
    by_cases h0 : ys.length = 0
    · rw [if_pos h0]
      have : ys = [] := by cases ys with | nil => rfl | cons _ _ => simp at h0
      subst this
      simp only [List.append_nil]
      exact ⟨_, st, rfl, .win k ver es hk hm he, Ex.refl _ _, by simp only [D.ref]; omega, fun _ _ _ => rfl, .inl rfl⟩
    · rw [if_neg h0, if_pos ⟨hb, by simp only [St.canW, Bool.and_eq_true, Bool.or_eq_true, decide_eq_true_eq]; exact ⟨by omega, .inl (by omega)⟩⟩]
      refine ⟨_, _, rfl, ?_, Ex.set hk _, by simp only [D.ref, List.length_set]; omega, fun j hj hne => by simp only; rw [List.getElem?_set_ne (by simp only [D.ref] at hne; omega)], .inl rfl⟩
      have : (es.flatten.take (0 + es.length * inf.size)).drop 0 ++ ys.flatten = (es ++ ys).flatten := by
        rw [Nat.zero_add, ← flat_len he, List.take_length, List.drop_zero, List.flatten_append]
      rw [this]
      have hll : es.length + ys.length = (es ++ ys).length := by simp
      rw [hll]
      exact .win k (ver + 1) (es ++ ys) hk (by simp [hkl]) fun e h => by
        rcases List.mem_append.1 h with h | h
        · exact he e h
        · exact hyl e h

/-- what is plain is told as it is -/
def plainC : D → Bool
  | .bool _ | .int _ _ | .str _ | .sl _ => true
  | _ => false

theorem mapO_plain {st : St} {N n : Nat} : ∀ {l : List D}, (∀ d ∈ l, plainC d = true) → mapO (pureD st N (n + 1)) l = some l
  | [], _ => rfl
  | d :: l, h => by
    have h1 := h d (List.mem_cons_self ..)
    have h2 := mapO_plain (st := st) (N := N) (n := n) fun x hx => h x (List.mem_cons_of_mem _ hx)
    have h3 : pureD st N (n + 1) d = some d := by cases d <;> simp [plainC] at h1 <;> rfl
    simp only [mapO, h3, h2]

def elD (s : Nat) (e : List D) : D := match s with | 1 => e.headD .junk | _ => .agg e

theorem chunk_flat {s : Nat} : ∀ {es : List (List D)}, (∀ e ∈ es, e.length = s) → chunk s es.length es.flatten = es.map (elD s)
  | [], _ => rfl
  | e :: es, h => by
    have he := h e (List.mem_cons_self ..)
    have ih := chunk_flat (s := s) (es := es) fun x hx => h x (List.mem_cons_of_mem _ hx)
    simp only [List.length_cons, chunk, List.flatten_cons, List.map_cons]
    congr 1
    · by_cases hs : s = 1
      · subst hs
        cases e with
        | nil => simp at he
        | cons x xs => simp [elD]
      · have h1 : elD s e = .agg e := by unfold elD; split; exact absurd rfl hs; rfl
        have h2 : (match s with | 1 => (e ++ es.flatten).headD .junk | _ => D.agg ((e ++ es.flatten).take s)) = .agg e := by
          split
          · exact absurd rfl hs
          · rw [List.take_left' he]
        rw [h1]; exact h2
    · rw [List.drop_left' he]; exact ih

theorem Acc.freeze {N : Nat} {st : St} {s : Nat} {x : D} {es : List (List D)} (h : Acc N st s x es) (hp : ∀ e ∈ es, ∀ d ∈ e, plainC d = true) {n : Nat} (hn : 2 ≤ n) : freezeD st N false (n + 1) x = some (.sl (es.map (elD s))) := by
  obtain ⟨n, rfl⟩ : ∃ m, n = m + 2 := ⟨n - 2, by omega⟩
  cases h with
  | nul => rfl
  | win k ver es hN hm he =>
    show (if k < N then some (D.win k ver 0 es.length s) else pureD st N (n + 2) (.win k ver 0 es.length s)) = _
    rw [if_neg (show ¬ k < N by omega), pureD]
    simp only [if_neg (show ¬ k < N by omega), St.mem_of hm, Option.bind_some]
    rw [if_pos (by rw [flat_len he]; omega)]
    have : (es.flatten.drop 0).take (es.length * s) = es.flatten := by rw [List.drop_zero, ← flat_len he, List.take_length]
    rw [this, mapO_plain (fun d hd => by
      obtain ⟨e, he', hd'⟩ := List.mem_flatten.1 hd
      exact hp e he' d hd')]
    simp only [Option.map_some, chunk_flat he]

theorem elD_cells {s : Nat} {e : List D} (h : e.length = s) (hp : ∀ d ∈ e, plainC d = true) : (elD s e).cells? = some (elD s e).cells ∧ (elD s e).cells = e := by
  by_cases hs : s = 1
  · subst hs
    match e, h with
    | [x], _ =>
      have := hp x (List.mem_cons_self ..)
      cases x <;> simp [plainC] at this <;> exact ⟨rfl, rfl⟩
  · have : elD s e = .agg e := by unfold elD; split; exact absurd rfl hs; rfl
    rw [this]; exact ⟨rfl, rfl⟩

theorem Rows.ofFrozen {st : St} {s : Nat} {es : List (List D)} (h : ∀ e ∈ es, e.length = s) (hp : ∀ e ∈ es, ∀ d ∈ e, plainC d = true) : Rows st s (.sl (es.map (elD s))) es := by
  have := Rows.sl (st := st) (s := s) (es.map (elD s)) fun d hd => by
    obtain ⟨e, he, rfl⟩ := List.mem_map.1 hd
    obtain ⟨h1, h2⟩ := elD_cells (h e he) (hp e he)
    exact ⟨h1, by rw [h2]; exact h e he⟩
  have h2 : (es.map (elD s)).map D.cells = es := by
    rw [List.map_map]
    conv => rhs; rw [← List.map_id es]
    refine List.map_congr_left fun e he => ?_
    exact (elD_cells (h e he) (hp e he)).2
  rwa [h2] at this

theorem Rows.bs {st st' : St} (h : st'.bs = st.bs) {s : Nat} {x : D} {es : List (List D)} (hr : Rows st s x es) : Rows st' s x es := by
  cases hr with
  | nul => exact .nul
  | sl es h => exact .sl es h
  | win k ver off es ar c hm hl he => exact .win k ver off es ar c (by simp only [St.mem?, h] at hm ⊢; exact hm) hl he

theorem enter_bs (m : Mode) (st : St) : (enterSt m st).bs = st.bs := by cases m <;> rfl

theorem Rows.enter {st : St} {s : Nat} {x : D} {es : List (List D)} (m : Mode) (hr : Rows st s x es) : Rows (enterSt m st) s x es := hr.bs (enter_bs m st)

/- numbers -/
theorem wrap_nat {k : IntKind} {m : Nat} (h : m ≤ maxN k) : wrapD k (m : Int) = m := by
  show wrapD k (.ofNat m) = _
  unfold wrapD
  simp only [Nat.ble_eq_true_of_le h]; rfl

theorem wrap_i64 {n : Int} (h1 : -9223372036854775808 ≤ n) (h2 : n ≤ 9223372036854775807) : wrapD .i64 n = n := by
  cases n with
  | ofNat m => exact wrap_nat (k := .i64) (m := m) (by simp only [maxN]; have : (Int.ofNat m) = (m : Int) := rfl; omega)
  | negSucc m =>
    unfold wrapD
    have : Nat.ble (minN .i64) m = false := by
      cases hb : Nat.ble (minN .i64) m with
      | false => rfl
      | true => have := Nat.le_of_ble_eq_true hb; simp only [minN] at this; have : Int.negSucc m = -(m : Int) - 1 := by omega
                omega
    simp only [this]

theorem bv_and {w a b : Nat} (ha : a < 2 ^ w) (hb : b < 2 ^ w) : (BitVec.ofInt w (a : Int) &&& BitVec.ofInt w (b : Int)).toNat = a &&& b := by
  rw [BitVec.ofInt_natCast, BitVec.ofInt_natCast, BitVec.toNat_and, BitVec.toNat_ofNat, BitVec.toNat_ofNat, Nat.mod_eq_of_lt ha, Nat.mod_eq_of_lt hb]

theorem bv_or {w a b : Nat} (ha : a < 2 ^ w) (hb : b < 2 ^ w) : (BitVec.ofInt w (a : Int) ||| BitVec.ofInt w (b : Int)).toNat = a ||| b := by
  rw [BitVec.ofInt_natCast, BitVec.ofInt_natCast, BitVec.toNat_or, BitVec.toNat_ofNat, BitVec.toNat_ofNat, Nat.mod_eq_of_lt ha, Nat.mod_eq_of_lt hb]
end Go.V
