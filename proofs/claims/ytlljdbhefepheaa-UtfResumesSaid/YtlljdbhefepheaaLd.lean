/-
  Steps of a region over rows.
-/
import Derived.Test.YtlljdbhefepheaaLc
namespace Go.V
set_option linter.unusedSimpArgs false
set_option linter.unusedVariables false
set_option linter.unusedSectionVars false

theorem beq_yes {a b : Int} (h : a = b) : (a == b) = true := by simp [h]
theorem beq_no {a b : Int} (h : a ≠ b) : (a == b) = false := by simp [h]
theorem bne_yes {a b : Int} (h : a ≠ b) : (a != b) = true := by simp [h]
theorem bne_no {a b : Int} (h : a = b) : (a != b) = false := by simp [h]

variable {P : Pv} {ops : Array Oper} {rest : List Oper} {n : Nat} {loc : List D} {tmp : List (Nat × D)} {st : St} {Q : Fr → St → Prop} {ty : TypeId} {p : String} {a : Array Edge} {g : Option (Nat × Bool)} {dst : Nat}

theorem EvO.len {t e : TypeId} {xo : Operand} {x : D} {s : Nat} {es : List (List D)} (hb0 : Nat.ble n dst = true) (hg : wantD ops ⟨n, loc, tmp⟩ ⟨some dst, .call ⟨.builtin .len, #[xo], #[t]⟩, ty, p, a, g⟩ = some true) (hx : Fr.ev ⟨n, loc, tmp⟩ xo = x) (hR : Rows st s x es) (ht : P.und t = some (.slice e))
    (h : EvO P ops rest ⟨n, loc, (dst, (.int .i64 (es.length : Nat))) :: tmp⟩ st Q) : EvO P ops (⟨some dst, .call ⟨.builtin .len, #[xo], #[t]⟩, ty, p, a, g⟩ :: rest) ⟨n, loc, tmp⟩ st Q := by
  refine EvO.T hb0 hg rfl (d := .int .i64 (es.length : Nat)) (st1 := st) ?_ h
  simp only [opD, List.map_cons, List.map_nil, hx]
  exact hR.opLen ht

theorem EvO.slice {t e : TypeId} {xo : Operand} {lo hi : Option Operand} {x : D} {s : Nat} {es : List (List D)} {l r : Nat} (hb0 : Nat.ble n dst = true) (hg : wantD ops ⟨n, loc, tmp⟩ ⟨some dst, .slice t xo lo hi none, ty, p, a, g⟩ = some true) (hx : Fr.ev ⟨n, loc, tmp⟩ xo = x) (hR : Rows st s x es) (ht : P.und t = some (.slice e)) (hs : szOf P e = some s)
    (hb : boundsD es.length (lo.map (Fr.ev ⟨n, loc, tmp⟩)) (hi.map (Fr.ev ⟨n, loc, tmp⟩)) = some (l, r)) (hlr : l ≤ r ∧ r ≤ es.length)
    (h : ∀ y, Rows st s y ((es.take r).drop l) → y.ref ≤ x.ref → EvO P ops rest ⟨n, loc, (dst, y) :: tmp⟩ st Q) : EvO P ops (⟨some dst, .slice t xo lo hi none, ty, p, a, g⟩ :: rest) ⟨n, loc, tmp⟩ st Q := by
  obtain ⟨y, h1, h2, h3⟩ := hR.slice ht hs hb hlr
  refine EvO.T hb0 hg rfl (d := y) (st1 := st) ?_ (h y h2 h3)
  simp only [opD, hx, h1, Option.map_some]

theorem EvO.append {N : Nat} {t1 t2 e : TypeId} {td : TypeDesc} {inf : TypeInfo} {z : List D} {xo yo : Operand} {x y : D} {s : Nat} {es ys : List (List D)} (hb0 : Nat.ble n dst = true) (hg : wantD ops ⟨n, loc, tmp⟩ ⟨some dst, .call ⟨.builtin .append, #[xo, yo], #[t1, t2]⟩, ty, p, a, g⟩ = some true)
    (hx : Fr.ev ⟨n, loc, tmp⟩ xo = x) (hy : Fr.ev ⟨n, loc, tmp⟩ yo = y) (hr : Acc N st s x es) (hys : Rows st s y ys)
    (h1 : P.und t1 = some (.slice e)) (h2 : P.und t2 = some td) (h3 : isIntT td = false) (h4 : P.info e = some inf) (h5 : zeroC P e = some z) (h6 : inf.size = s) (h7 : z.length = s) (h8 : inf.bytes ≠ 0)
    (hN : N ≤ st.bs.length) (hf : st.flr ≤ N) (hro : st.ro ≤ N) (hb : (es.length + ys.length) * inf.bytes ≤ 1099511627776)
    (h : ∀ x' st', Acc N st' s x' (es ++ ys) → Ex N st st' → x'.ref ≤ st'.bs.length → (∀ k, k < st.bs.length → k + 1 ≠ x.ref → st'.bs[k]? = st.bs[k]?) → (x'.ref = x.ref ∨ st.bs.length < x'.ref) → EvO P ops rest ⟨n, loc, (dst, x') :: tmp⟩ st' Q) :
    EvO P ops (⟨some dst, .call ⟨.builtin .append, #[xo, yo], #[t1, t2]⟩, ty, p, a, g⟩ :: rest) ⟨n, loc, tmp⟩ st Q := by
  obtain ⟨x', st', q1, q2, q3, q4, q5, q6⟩ := hr.append hys h1 h2 h3 h4 h5 h6 h7 h8 hN hf hro hb
  refine EvO.T hb0 hg rfl (d := x') (st1 := st') ?_ (h x' st' q2 q3 q4 q5 q6)
  simp only [opD, List.map_cons, List.map_nil, hx, hy]
  exact q1

/-- a list of one element that was just built -/
theorem Rows.one {st : St} {s : Nat} {c : List D} (hc : c.length = s) : Rows (st.push (.mem 0 true c)) s (.win st.bs.length 0 0 1 s) [c] := by
  have := Rows.win (st := st.push (.mem 0 true c)) (s := s) st.bs.length 0 0 [c] true c (St.mem_of (by simp [St.push])) (by simp [hc]) fun i e hi => by
    cases i with
    | zero => simp at hi; subst hi; simp [← hc]
    | succ i => simp at hi
  exact this

theorem Rows.ref {st : St} {s : Nat} {x : D} {es : List (List D)} (h : Rows st s x es) : x.ref ≤ st.bs.length := by
  cases h with
  | nul => simp [D.ref]
  | sl es h => simp [D.ref]
  | win k ver off es ar c hm hl he =>
    simp only [D.ref]
    rcases Nat.lt_or_ge k st.bs.length with h' | h'
    · exact h'
    · simp only [St.mem?, List.getElem?_eq_none h'] at hm; cases hm

theorem Acc.ref {N : Nat} {st : St} {s : Nat} {x : D} {es : List (List D)} (h : Acc N st s x es) : x.ref ≤ st.bs.length := h.rows.ref

theorem Ex.bs_eq {N : Nat} {st st' : St} (h : Ex N st st') : st'.ro = st.ro ∧ st'.flr = st.flr := ⟨h.ro, h.flr⟩
end Go.V
