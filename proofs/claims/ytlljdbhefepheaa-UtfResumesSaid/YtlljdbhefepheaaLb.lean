/-
  Rows of elements, as they are read; steps of a region.
-/
import Derived.Test.YtlljdbhefepheaaLa
namespace Go.V
set_option linter.unusedSimpArgs false
set_option linter.unusedVariables false
set_option linter.unusedSectionVars false

theorem EvC.reg {P : Pv} {dy : Dy} {i : Nat} {l : List Oper} {d n loc tmp st} {Q : Out → Fr → St → Prop} (h : EvO P l.toArray l ⟨n, loc, []⟩ st (Q .next)) (h0 : lookDy i dy = [] := by rfl) : EvC P dy (.region i l.toArray d) ⟨n, loc, tmp⟩ st Q := EvC.region h h0

theorem EvC.regY {P : Pv} {dy : Dy} {i : Nat} {l : List Oper} {d n loc tmp st} {Q : Out → Fr → St → Prop} {p : Nat × Nat} {ps : List (Nat × Nat)} (h0 : lookDy i dy = p :: ps) (h : EvY P l.toArray (p :: ps) 0 [] l ⟨n, loc, []⟩ st (Q .next)) : EvC P dy (.region i l.toArray d) ⟨n, loc, tmp⟩ st Q := EvC.regionY h0 h

theorem Ev.mk1 {P : Pv} {f x body args st d st' n loc} (hq : lookP f P.prm = none) (hf : P.fi f = some x) (hp : x.prim = none) (hb : x.fn.body = some body) (hpad : pad x.nloc args = ⟨n, loc, []⟩)
    (h : EvC P x.dyn body ⟨n, loc, []⟩ (enterSt x.mode st) fun o fr st1 => (∀ i, o ≠ .exit i) ∧ ∃ ds, resD P fr st1 x.fn.results.toList = some ds ∧ leaveD x.mode x.knul st st1 (tupD ds) = some (d, st')) : Ev P f args st d st' :=
  Ev.of hq hf hp hb (by rw [hpad]; exact h)

theorem ofVal_int (k : IntKind) (n : Int) : ofVal (.int k n) = .int k n := rfl
theorem ofVal_bool (b : Bool) : ofVal (.bool b) = .bool b := rfl
theorem ofVal_str (s : ByteArray) : ofVal (.string s) = .str s.data.toList := rfl
theorem ofVal_nul : ofVal (.slice none 0 0) = .nul := rfl
theorem ofVal_pnil : ofVal (.pointer none) = .pnil := rfl
theorem ofVal_nilfn : ofVal .nilFunc = .nilfn := rfl
theorem ofVal_nilif : ofVal .nilIface = .nilif := rfl

/- the steps, with the frame in form -/
section
variable {P : Pv} {ops : Array Oper} {rest : List Oper} {n : Nat} {loc : List D} {tmp : List (Nat × D)} {st st1 : St} {Q : Fr → St → Prop} {op : Op} {ty : TypeId} {p : String} {a : Array Edge} {g : Option (Nat × Bool)} {t : Nat} {d : D}

theorem put_T (hb : Nat.ble n t = true) (d : D) : Fr.put ⟨n, loc, tmp⟩ t d = ⟨n, loc, (t, d) :: tmp⟩ := by
  simp only [Fr.put, hb]
theorem put_L (hb : Nat.ble n t = false) (d : D) : Fr.put ⟨n, loc, tmp⟩ t d = ⟨n, loc.set t d, tmp⟩ := by
  simp only [Fr.put, hb]

theorem EvO.T (hb : Nat.ble n t = true) (hg : wantD ops ⟨n, loc, tmp⟩ ⟨some t, op, ty, p, a, g⟩ = some true) (hc : isCall op = false) (h1 : opD P ⟨n, loc, tmp⟩ st op ty = some (d, st1))
    (h : EvO P ops rest ⟨n, loc, (t, d) :: tmp⟩ st1 Q) : EvO P ops (⟨some t, op, ty, p, a, g⟩ :: rest) ⟨n, loc, tmp⟩ st Q :=
  EvO.op hg hc h1 (by show EvO P ops rest (Fr.put _ t d) st1 Q; rw [put_T hb]; exact h)
theorem EvO.L (hb : Nat.ble n t = false) (hg : wantD ops ⟨n, loc, tmp⟩ ⟨some t, op, ty, p, a, g⟩ = some true) (hc : isCall op = false) (h1 : opD P ⟨n, loc, tmp⟩ st op ty = some (d, st1))
    (h : EvO P ops rest ⟨n, loc.set t d, tmp⟩ st1 Q) : EvO P ops (⟨some t, op, ty, p, a, g⟩ :: rest) ⟨n, loc, tmp⟩ st Q :=
  EvO.op hg hc h1 (by show EvO P ops rest (Fr.put _ t d) st1 Q; rw [put_L hb]; exact h)
theorem EvO.N {fr : Fr} (hg : wantD ops fr ⟨none, op, ty, p, a, g⟩ = some true) (hc : isCall op = false) (h1 : opD P fr st op ty = some (d, st1))
    (h : EvO P ops rest fr st1 Q) : EvO P ops (⟨none, op, ty, p, a, g⟩ :: rest) fr st Q := EvO.op hg hc h1 h
theorem EvO.offT (hb : Nat.ble n t = true) (hg : wantD ops ⟨n, loc, tmp⟩ ⟨some t, op, ty, p, a, g⟩ = some false)
    (h : EvO P ops rest ⟨n, loc, (t, .tup []) :: tmp⟩ st Q) : EvO P ops (⟨some t, op, ty, p, a, g⟩ :: rest) ⟨n, loc, tmp⟩ st Q :=
  EvO.off hg (by show EvO P ops rest (Fr.put _ t _) st Q; rw [put_T hb]; exact h)
theorem EvO.offL (hb : Nat.ble n t = false) (hg : wantD ops ⟨n, loc, tmp⟩ ⟨some t, op, ty, p, a, g⟩ = some false)
    (h : EvO P ops rest ⟨n, loc.set t (.tup []), tmp⟩ st Q) : EvO P ops (⟨some t, op, ty, p, a, g⟩ :: rest) ⟨n, loc, tmp⟩ st Q :=
  EvO.off hg (by show EvO P ops rest (Fr.put _ t _) st Q; rw [put_L hb]; exact h)
theorem EvO.offN {fr : Fr} (hg : wantD ops fr ⟨none, op, ty, p, a, g⟩ = some false)
    (h : EvO P ops rest fr st Q) : EvO P ops (⟨none, op, ty, p, a, g⟩ :: rest) fr st Q := EvO.off hg h
theorem EvO.callT {f gn : _} {caps : List D} {args : Array Operand} {tys : Array TypeId} (hb : Nat.ble n t = true) (hg : wantD ops ⟨n, loc, tmp⟩ ⟨some t, .call ⟨.value f, args, tys⟩, ty, p, a, g⟩ = some true) (hf : Fr.ev ⟨n, loc, tmp⟩ f = .fn gn caps)
    (h1 : Ev P gn (args.toList.map (Fr.ev ⟨n, loc, tmp⟩) ++ caps) st d st1)
    (h : EvO P ops rest ⟨n, loc, (t, d) :: tmp⟩ st1 Q) : EvO P ops (⟨some t, .call ⟨.value f, args, tys⟩, ty, p, a, g⟩ :: rest) ⟨n, loc, tmp⟩ st Q :=
  EvO.call hg hf h1 (by show EvO P ops rest (Fr.put _ t d) st1 Q; rw [put_T hb]; exact h)
theorem EvO.callL {f gn : _} {caps : List D} {args : Array Operand} {tys : Array TypeId} (hb : Nat.ble n t = false) (hg : wantD ops ⟨n, loc, tmp⟩ ⟨some t, .call ⟨.value f, args, tys⟩, ty, p, a, g⟩ = some true) (hf : Fr.ev ⟨n, loc, tmp⟩ f = .fn gn caps)
    (h1 : Ev P gn (args.toList.map (Fr.ev ⟨n, loc, tmp⟩) ++ caps) st d st1)
    (h : EvO P ops rest ⟨n, loc.set t d, tmp⟩ st1 Q) : EvO P ops (⟨some t, .call ⟨.value f, args, tys⟩, ty, p, a, g⟩ :: rest) ⟨n, loc, tmp⟩ st Q :=
  EvO.call hg hf h1 (by show EvO P ops rest (Fr.put _ t d) st1 Q; rw [put_L hb]; exact h)
end

/-- x has the elements es, each of s cells -/
inductive Rows (st : St) (s : Nat) : D → List (List D) → Prop where
  | nul : Rows st s .nul []
  | sl (es : List D) (h : ∀ e ∈ es, e.cells? = some e.cells ∧ e.cells.length = s) : Rows st s (.sl es) (es.map D.cells)
  | win (k ver off : Nat) (es : List (List D)) (ar : Bool) (c : List D) (hm : st.mem? k ver = some (ar, c)) (hl : off + es.length * s ≤ c.length)
      (he : ∀ (i : Nat) e, es[i]? = some e → (c.drop (off + i * s)).take s = e) : Rows st s (.win k ver off es.length s) es

theorem Rows.elen {st : St} {s : Nat} {x : D} {es : List (List D)} (h : Rows st s x es) : ∀ (i : Nat) e, es[i]? = some e → e.length = s := by
  cases h with
  | nul => intro i e h; simp at h
  | sl es h =>
    intro i e hi
    rw [List.getElem?_map] at hi
    obtain ⟨d, hd, rfl⟩ := Option.map_eq_some_iff.1 hi
    exact (h d (List.mem_of_getElem? hd)).2
  | win k ver off es ar c hm hl he =>
    intro i e hi
    have hlt : i < es.length := by
      rcases Nat.lt_or_ge i es.length with h' | h'
      · exact h'
      · rw [List.getElem?_eq_none h'] at hi; cases hi
    rw [← he i e hi]
    have : (i + 1) * s ≤ es.length * s := Nat.mul_le_mul_right s hlt
    rw [Nat.add_mul] at this
    simp; omega

theorem Rows.len {st : St} {s : Nat} {x : D} {es : List (List D)} (h : Rows st s x es) : lenD x = some es.length ∧ ∀ b, x ≠ .str b := by
  cases h with
  | nul => exact ⟨rfl, fun b h => by cases h⟩
  | sl es h => exact ⟨by simp [lenD], fun b h => by cases h⟩
  | win k ver off es ar c hm hl he => exact ⟨rfl, fun b h => by cases h⟩

theorem Rows.opLen {P : Pv} {st : St} {s : Nat} {x : D} {es : List (List D)} (h : Rows st s x es) {t e : TypeId} (ht : P.und t = some (.slice e)) :
    builtinD P .len [t] [x] st = some (.int .i64 (es.length : Nat), st) := by
  obtain ⟨h1, h2⟩ := h.len
  simp only [builtinD, ht]
  cases x with
  | str b => exact absurd rfl (h2 b)
  | _ => simp only [h1]; rfl

theorem takeD_head {P : Pv} {e : TypeId} {c c' : List D} {s : Nat} {d : D} (hs : szOf P e = some s) (hc : c.take s = c') (hl : c'.length = s) (h : takeD P e c' = some d) : takeD P e c = some d := by
  have hlen : s ≤ c.length := by rw [← hc] at hl; simp at hl; omega
  unfold takeD at h ⊢
  cases hu : P.und e with
  | none => rw [hu] at h; cases h
  | some u =>
    rw [hu] at h
    cases u with
    | struct f =>
      simp only [hs, Option.bind_some] at h ⊢
      rw [if_pos (by omega)] at h
      rw [if_pos hlen, hc]
      rw [← h, List.take_of_length_le (by omega)]
    | array n f =>
      simp only [hs, Option.bind_some] at h ⊢
      rw [if_pos (by omega)] at h
      rw [if_pos hlen, hc]
      rw [← h, List.take_of_length_le (by omega)]
    | _ =>
      simp only at h ⊢
      rw [← h, ← hc]
      cases c with
      | nil => simp
      | cons x xs =>
        cases s with
        | zero => simp at hc; subst hc; simp at h
        | succ s => simp

theorem Rows.idx {P : Pv} {st : St} {s : Nat} {x : D} {es : List (List D)} (h : Rows st s x es) {t e : TypeId} (ht : P.und t = some (.slice e)) (hs : szOf P e = some s) {k : IntKind} {i : Int} {r : List D} (h0 : 0 ≤ i) (hi : es[i.toNat]? = some r) :
    ∃ p, indexAddrD P t x (.int k i) st = some p ∧ ∀ d, takeD P e r = some d → loadD P e p st = some d := by
  cases h with
  | nul => simp at hi
  | sl es h =>
    rw [List.getElem?_map] at hi
    obtain ⟨d, hd, rfl⟩ := Option.map_eq_some_iff.1 hi
    obtain ⟨h1, h2⟩ := h d (List.mem_of_getElem? hd)
    refine ⟨.ep d.cells, ?_, fun d' h => h⟩
    simp only [indexAddrD, ht, hs, Option.bind_some, if_pos h0, hd, h1, if_pos h2]
  | win k ver off es ar c hm hl he =>
    have hlt : i.toNat < es.length := by
      rcases Nat.lt_or_ge i.toNat es.length with h' | h'
      · exact h'
      · rw [List.getElem?_eq_none h'] at hi; cases hi
    refine ⟨.ptr k ver (off + i.toNat * s), ?_, fun d' h => ?_⟩
    · simp only [indexAddrD, ht, hs, Option.bind_some, hm, Option.isSome_some]
      rw [if_pos ⟨trivial, h0, by omega, trivial⟩]
    · simp only [loadD, hm, Option.bind_some]
      exact takeD_head hs (he _ _ hi) (Rows.elen (.win k ver off es ar c hm hl he) _ _ hi) h

theorem EvO.idxLoad {P : Pv} {ops : Array Oper} {rest : List Oper} {n : Nat} {loc : List D} {tmp : List (Nat × D)} {st : St} {Q : Fr → St → Prop} {t e : TypeId} {xo io : Operand} {d1 d2 : Nat} {ty1 ty2 : TypeId} {p1 p2 : String} {a1 a2 : Array Edge} {g1 g2 : Option (Nat × Bool)} {x : D} {k : IntKind} {i : Int} {s : Nat} {es : List (List D)} {r : List D} {d : D}
    (hb1 : Nat.ble n d1 = true) (hb2 : Nat.ble n d2 = true) (hg1 : wantD ops ⟨n, loc, tmp⟩ ⟨some d1, .indexAddr t xo io, ty1, p1, a1, g1⟩ = some true) (hg2 : ∀ p, wantD ops ⟨n, loc, (d1, p) :: tmp⟩ ⟨some d2, .load e (.tmp d1), ty2, p2, a2, g2⟩ = some true)
    (hx : Fr.ev ⟨n, loc, tmp⟩ xo = x) (hi : Fr.ev ⟨n, loc, tmp⟩ io = .int k i) (hR : Rows st s x es) (ht : P.und t = some (.slice e)) (hs : szOf P e = some s) (h0 : 0 ≤ i) (hr : es[i.toNat]? = some r) (hd : takeD P e r = some d)
    (h : ∀ p, EvO P ops rest ⟨n, loc, (d2, d) :: (d1, p) :: tmp⟩ st Q) : EvO P ops (⟨some d1, .indexAddr t xo io, ty1, p1, a1, g1⟩ :: ⟨some d2, .load e (.tmp d1), ty2, p2, a2, g2⟩ :: rest) ⟨n, loc, tmp⟩ st Q := by
  obtain ⟨p, h1, h2⟩ := hR.idx ht hs (k := k) h0 hr
  refine EvO.T hb1 hg1 rfl (d := p) (st1 := st) (by simp only [opD, hx, hi, h1, Option.map_some]) ?_
  refine EvO.T hb2 (hg2 p) rfl (d := d) (st1 := st) ?_ (h p)
  have : Fr.ev ⟨n, loc, (d1, p) :: tmp⟩ (.tmp d1) = p := by
    simp only [Fr.ev, Fr.get, hb1, look]
    have : Nat.beq d1 d1 = true := Nat.beq_refl d1
    rw [this]
  simp only [opD, this, h2 d hd, Option.map_some]

theorem EvO.idxLoadL {P : Pv} {ops : Array Oper} {rest : List Oper} {n : Nat} {loc : List D} {tmp : List (Nat × D)} {st : St} {Q : Fr → St → Prop} {t e : TypeId} {xo io : Operand} {d1 d2 : Nat} {ty1 ty2 : TypeId} {p1 p2 : String} {a1 a2 : Array Edge} {g1 g2 : Option (Nat × Bool)} {x : D} {k : IntKind} {i : Int} {s : Nat} {es : List (List D)} {r : List D} {d : D}
    (hb1 : Nat.ble n d1 = false) (hb2 : Nat.ble n d2 = false) (hg1 : wantD ops ⟨n, loc, tmp⟩ ⟨some d1, .indexAddr t xo io, ty1, p1, a1, g1⟩ = some true) (hg2 : ∀ p, wantD ops ⟨n, loc.set d1 p, tmp⟩ ⟨some d2, .load e (.tmp d1), ty2, p2, a2, g2⟩ = some true)
    (hd1 : d1 < loc.length) (hx : Fr.ev ⟨n, loc, tmp⟩ xo = x) (hi : Fr.ev ⟨n, loc, tmp⟩ io = .int k i) (hR : Rows st s x es) (ht : P.und t = some (.slice e)) (hs : szOf P e = some s) (h0 : 0 ≤ i) (hr : es[i.toNat]? = some r) (hd : takeD P e r = some d)
    (h : ∀ p, EvO P ops rest ⟨n, (loc.set d1 p).set d2 d, tmp⟩ st Q) : EvO P ops (⟨some d1, .indexAddr t xo io, ty1, p1, a1, g1⟩ :: ⟨some d2, .load e (.tmp d1), ty2, p2, a2, g2⟩ :: rest) ⟨n, loc, tmp⟩ st Q := by
  obtain ⟨p, h1, h2⟩ := hR.idx ht hs (k := k) h0 hr
  refine EvO.L hb1 hg1 rfl (d := p) (st1 := st) (by simp only [opD, hx, hi, h1, Option.map_some]) ?_
  refine EvO.L hb2 (hg2 p) rfl (d := d) (st1 := st) ?_ (h p)
  have : Fr.ev ⟨n, loc.set d1 p, tmp⟩ (.tmp d1) = p := by
    simp only [Fr.ev, Fr.get, hb1]
    have key : ∀ (l : List D) (i : Nat), i < l.length → nth .junk (l.set i p) i = p := by
      intro l
      induction l with
      | nil => intro i h; simp at h
      | cons x l ih =>
        intro i h
        cases i with
        | zero => rfl
        | succ i => exact ih i (by simpa using h)
    exact key loc d1 hd1
  simp only [opD, this, h2 d hd, Option.map_some]

/-- bytes -/
def byteCells (b : List UInt8) : List (List D) := b.map fun y => [.int .u8 (y.toNat : Nat)]
def Bytes (st : St) (x : D) (b : List UInt8) : Prop := Rows st 1 x (byteCells b)

theorem leave_same {m : Mode} {kn : Bool} {st st1 : St} {d d' : D} (hm : m ≠ .keep) (h1 : st1.bs.take st.bs.length = st.bs) (hd : freezeD st1 st.bs.length kn 16 d = some d') : leaveD m kn st st1 d = some (d', st) := by
  cases m with
  | keep => exact absurd rfl hm
  | _ => simp only [leaveD, hd, h1]
end Go.V
