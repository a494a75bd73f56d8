/-
  The steps whose slot is a local one. By program, out of Ld and Le.
-/
import Derived.Test.YtlljdbhefepheaaLe
namespace Go.V
set_option linter.unusedSimpArgs false
set_option linter.unusedVariables false
set_option linter.unusedSectionVars false

variable {P : Pv} {ops : Array Oper} {rest : List Oper} {n : Nat} {loc : List D} {tmp : List (Nat × D)} {st : St} {Q : Fr → St → Prop} {ty : TypeId} {p : String} {a : Array Edge} {g : Option (Nat × Bool)} {dst : Nat}

theorem EvO.lenL {t e : TypeId} {xo : Operand} {x : D} {s : Nat} {es : List (List D)} (hb0 : Nat.ble n dst = false) (hg : wantD ops ⟨n, loc, tmp⟩ ⟨some dst, .call ⟨.builtin .len, #[xo], #[t]⟩, ty, p, a, g⟩ = some true) (hx : Fr.ev ⟨n, loc, tmp⟩ xo = x) (hR : Rows st s x es) (ht : P.und t = some (.slice e))
    (h : EvO P ops rest ⟨n, loc.set dst ((.int .i64 (es.length : Nat))), tmp⟩ st Q) : EvO P ops (⟨some dst, .call ⟨.builtin .len, #[xo], #[t]⟩, ty, p, a, g⟩ :: rest) ⟨n, loc, tmp⟩ st Q := by
  refine EvO.L hb0 hg rfl (d := .int .i64 (es.length : Nat)) (st1 := st) ?_ h
  simp only [opD, List.map_cons, List.map_nil, hx]
  exact hR.opLen ht

theorem EvO.sliceL {t e : TypeId} {xo : Operand} {lo hi : Option Operand} {x : D} {s : Nat} {es : List (List D)} {l r : Nat} (hb0 : Nat.ble n dst = false) (hg : wantD ops ⟨n, loc, tmp⟩ ⟨some dst, .slice t xo lo hi none, ty, p, a, g⟩ = some true) (hx : Fr.ev ⟨n, loc, tmp⟩ xo = x) (hR : Rows st s x es) (ht : P.und t = some (.slice e)) (hs : szOf P e = some s)
    (hb : boundsD es.length (lo.map (Fr.ev ⟨n, loc, tmp⟩)) (hi.map (Fr.ev ⟨n, loc, tmp⟩)) = some (l, r)) (hlr : l ≤ r ∧ r ≤ es.length)
    (h : ∀ y, Rows st s y ((es.take r).drop l) → y.ref ≤ x.ref → EvO P ops rest ⟨n, loc.set dst (y), tmp⟩ st Q) : EvO P ops (⟨some dst, .slice t xo lo hi none, ty, p, a, g⟩ :: rest) ⟨n, loc, tmp⟩ st Q := by
  obtain ⟨y, h1, h2, h3⟩ := hR.slice ht hs hb hlr
  refine EvO.L hb0 hg rfl (d := y) (st1 := st) ?_ (h y h2 h3)
  simp only [opD, hx, h1, Option.map_some]

theorem EvO.appendL {N : Nat} {t1 t2 e : TypeId} {td : TypeDesc} {inf : TypeInfo} {z : List D} {xo yo : Operand} {x y : D} {s : Nat} {es ys : List (List D)} (hb0 : Nat.ble n dst = false) (hg : wantD ops ⟨n, loc, tmp⟩ ⟨some dst, .call ⟨.builtin .append, #[xo, yo], #[t1, t2]⟩, ty, p, a, g⟩ = some true)
    (hx : Fr.ev ⟨n, loc, tmp⟩ xo = x) (hy : Fr.ev ⟨n, loc, tmp⟩ yo = y) (hr : Acc N st s x es) (hys : Rows st s y ys)
    (h1 : P.und t1 = some (.slice e)) (h2 : P.und t2 = some td) (h3 : isIntT td = false) (h4 : P.info e = some inf) (h5 : zeroC P e = some z) (h6 : inf.size = s) (h7 : z.length = s) (h8 : inf.bytes ≠ 0)
    (hN : N ≤ st.bs.length) (hf : st.flr ≤ N) (hro : st.ro ≤ N) (hb : (es.length + ys.length) * inf.bytes ≤ 1099511627776)
    (h : ∀ x' st', Acc N st' s x' (es ++ ys) → Ex N st st' → x'.ref ≤ st'.bs.length → (∀ k, k < st.bs.length → k + 1 ≠ x.ref → st'.bs[k]? = st.bs[k]?) → (x'.ref = x.ref ∨ st.bs.length < x'.ref) → EvO P ops rest ⟨n, loc.set dst (x'), tmp⟩ st' Q) :
    EvO P ops (⟨some dst, .call ⟨.builtin .append, #[xo, yo], #[t1, t2]⟩, ty, p, a, g⟩ :: rest) ⟨n, loc, tmp⟩ st Q := by
  obtain ⟨x', st', q1, q2, q3, q4, q5, q6⟩ := hr.append hys h1 h2 h3 h4 h5 h6 h7 h8 hN hf hro hb
  refine EvO.L hb0 hg rfl (d := x') (st1 := st') ?_ (h x' st' q2 q3 q4 q5 q6)
  simp only [opD, List.map_cons, List.map_nil, hx, hy]
  exact q1

theorem EvO.makeSliceL {t e : TypeId} {lo co : Operand} {k1 k2 : IntKind} {m : Nat} {inf : TypeInfo} {z : List D} (hb0 : Nat.ble n dst = false) (hg : wantD ops ⟨n, loc, tmp⟩ ⟨some dst, .makeSlice t lo co, ty, p, a, g⟩ = some true)
    (hl : Fr.ev ⟨n, loc, tmp⟩ lo = .int k1 (m : Nat)) (hc : Fr.ev ⟨n, loc, tmp⟩ co = .int k2 (m : Nat)) (ht : P.und t = some (.slice e)) (hi : P.info e = some inf) (hz : zeroC P e = some z) (hzl : z.length = inf.size) (hm : m * inf.bytes ≤ 140737488355328) (hm2 : m ≤ 9223372036854775807)
    (h : EvO P ops rest ⟨n, loc.set dst (.win st.bs.length 0 0 m inf.size), tmp⟩ (st.push (.mem 0 true (repl m z))) Q) : EvO P ops (⟨some dst, .makeSlice t lo co, ty, p, a, g⟩ :: rest) ⟨n, loc, tmp⟩ st Q := by
  refine EvO.L hb0 hg rfl (d := .win st.bs.length 0 0 m inf.size) (st1 := st.push (.mem 0 true (repl m z))) ?_ h
  simp only [opD, hl, hc, makeSliceD, ht, hi, hz, Option.bind_some]
  rw [if_pos ⟨hzl, by omega, by omega, by omega, by rw [← Int.natCast_mul]; omega⟩]
  rfl

theorem EvO.copyL {t1 t2 e : TypeId} {do_ so : Operand} {k ver off len s : Nat} {y : D} {ys : List (List D)} {ar : Bool} {c : List D} (hb0 : Nat.ble n dst = false) (hg : wantD ops ⟨n, loc, tmp⟩ ⟨some dst, .call ⟨.builtin .copy, #[do_, so], #[t1, t2]⟩, ty, p, a, g⟩ = some true)
    (hd : Fr.ev ⟨n, loc, tmp⟩ do_ = .win k ver off len s) (hy : Fr.ev ⟨n, loc, tmp⟩ so = y) (hR : Rows st s y ys) (ht : P.und t1 = some (.slice e)) (hs : szOf P e = some s) (hm : st.bs[k]? = some (.mem ver ar c)) (hl : off + len * s ≤ c.length)
    (hw : st.canW k (refs (ys.flatten.take (min ys.length len * s))) = true)
    (h : EvO P ops rest ⟨n, loc.set dst (.int .i64 (min ys.length len : Nat)), tmp⟩ { st with bs := st.bs.set k (.mem ver ar (c.take off ++ ys.flatten.take (min ys.length len * s) ++ c.drop (off + min ys.length len * s))) } Q) :
    EvO P ops (⟨some dst, .call ⟨.builtin .copy, #[do_, so], #[t1, t2]⟩, ty, p, a, g⟩ :: rest) ⟨n, loc, tmp⟩ st Q := by
  have hyl : ∀ e ∈ ys, e.length = s := fun e he => by
    obtain ⟨i, hi⟩ := List.getElem?_of_mem he
    exact hR.elen i e hi
  have hfl := flat_len hyl
  have hmin : min ys.length len * s ≤ ys.length * s := Nat.mul_le_mul_right s (Nat.min_le_left _ _)
  have hmin2 : min ys.length len * s ≤ len * s := Nat.mul_le_mul_right s (Nat.min_le_right _ _)
  have htl : (ys.flatten.take (min ys.length len * s)).length = min ys.length len * s := by rw [List.length_take, hfl]; omega
  refine EvO.L hb0 hg rfl (d := .int .i64 (min ys.length len : Nat)) (st1 := { st with bs := st.bs.set k (.mem ver ar (c.take off ++ ys.flatten.take (min ys.length len * s) ++ c.drop (off + min ys.length len * s))) }) ?_ h
  simp only [opD, List.map_cons, List.map_nil, hd, hy, builtinD, copyD, ht, hs, Option.bind_some, hR.row]
  rw [if_neg (by simp [hfl])]
  simp only [ne_eq, not_true_eq_false, if_false]
  have := wr_own (st := st) hm (cs := ys.flatten.take (min ys.length len * s)) (off := off) (by rw [htl]; omega) hw
  rw [this, htl]; rfl

theorem EvO.loadL {t : TypeId} {ao : Operand} {k ver off : Nat} {d : D} {ar : Bool} {c : List D} (hb0 : Nat.ble n dst = false) (hg : wantD ops ⟨n, loc, tmp⟩ ⟨some dst, .load t ao, ty, p, a, g⟩ = some true) (ha : Fr.ev ⟨n, loc, tmp⟩ ao = .ptr k ver off)
    (hm : st.bs[k]? = some (.mem ver ar c)) (hd : takeD P t (c.drop off) = some d)
    (h : EvO P ops rest ⟨n, loc.set dst (d), tmp⟩ st Q) : EvO P ops (⟨some dst, .load t ao, ty, p, a, g⟩ :: rest) ⟨n, loc, tmp⟩ st Q := by
  refine EvO.L hb0 hg rfl (d := d) (st1 := st) ?_ h
  simp only [opD, ha, loadD, St.mem_of hm, Option.bind_some, hd, Option.map_some]

theorem EvO.convBytesL {s t e : TypeId} {xo : Operand} {b : List UInt8} (hb0 : Nat.ble n dst = false) (hg : wantD ops ⟨n, loc, tmp⟩ ⟨some dst, .convert s t xo, ty, p, a, g⟩ = some true) (hx : Fr.ev ⟨n, loc, tmp⟩ xo = .str b) (h1 : P.und s = some .string) (h2 : P.und t = some (.slice e)) (h3 : P.und e = some (.int .u8)) (hl : b.length < 1099511627776)
    (h : EvO P ops rest ⟨n, loc.set dst (.win st.bs.length 0 0 b.length 1), tmp⟩ (st.push (.mem 0 true (b.map fun y => .int .u8 (y.toNat : Nat)))) Q) : EvO P ops (⟨some dst, .convert s t xo, ty, p, a, g⟩ :: rest) ⟨n, loc, tmp⟩ st Q := by
  refine EvO.L hb0 hg rfl (d := .win st.bs.length 0 0 b.length 1) (st1 := st.push (.mem 0 true (b.map fun y => .int .u8 (y.toNat : Nat)))) ?_ h
  simp only [opD, hx, convD, h1, h2, h3, if_pos hl]

theorem EvO.nextL {io : Operand} {k pos : Nat} {b : List UInt8} (hb0 : Nat.ble n dst = false) (hg : wantD ops ⟨n, loc, tmp⟩ ⟨some dst, .next io true, ty, p, a, g⟩ = some true) (hx : Fr.ev ⟨n, loc, tmp⟩ io = .ptr k 0 0) (hm : st.bs[k]? = some (.iter b pos)) (hp : pos < b.length) (hw : st.canW k 0 = true)
    (h : EvO P ops rest ⟨n, loc.set dst (.tup [.bool true, .int .i64 (pos : Nat), .int .i32 ((Utf8.decode ⟨b.toArray⟩ pos).1 : Nat)]), tmp⟩ { st with bs := st.bs.set k (.iter b (pos + (Utf8.decode ⟨b.toArray⟩ pos).2)) } Q) : EvO P ops (⟨some dst, .next io true, ty, p, a, g⟩ :: rest) ⟨n, loc, tmp⟩ st Q := by
  refine EvO.L hb0 hg rfl (d := .tup [.bool true, .int .i64 (pos : Nat), .int .i32 ((Utf8.decode ⟨b.toArray⟩ pos).1 : Nat)]) (st1 := { st with bs := st.bs.set k (.iter b (pos + (Utf8.decode ⟨b.toArray⟩ pos).2)) }) ?_ h
  simp only [opD, hx, nextD, hm, if_pos hp, hw, if_true]

theorem EvO.nextEndL {io : Operand} {k pos : Nat} {b : List UInt8} (hb0 : Nat.ble n dst = false) (hg : wantD ops ⟨n, loc, tmp⟩ ⟨some dst, .next io true, ty, p, a, g⟩ = some true) (hx : Fr.ev ⟨n, loc, tmp⟩ io = .ptr k 0 0) (hm : st.bs[k]? = some (.iter b pos)) (hp : ¬ pos < b.length)
    (h : EvO P ops rest ⟨n, loc.set dst (.tup [.bool false]), tmp⟩ st Q) : EvO P ops (⟨some dst, .next io true, ty, p, a, g⟩ :: rest) ⟨n, loc, tmp⟩ st Q := by
  refine EvO.L hb0 hg rfl (d := .tup [.bool false]) (st1 := st) ?_ h
  simp only [opD, hx, nextD, hm, if_neg hp]

theorem EvO.lenSL {t : TypeId} {xo : Operand} {b : List UInt8} (hb0 : Nat.ble n dst = false) (hg : wantD ops ⟨n, loc, tmp⟩ ⟨some dst, .call ⟨.builtin .len, #[xo], #[t]⟩, ty, p, a, g⟩ = some true) (hx : Fr.ev ⟨n, loc, tmp⟩ xo = .str b) (ht : P.und t = some .string)
    (h : EvO P ops rest ⟨n, loc.set dst (.int .i64 (b.length : Nat)), tmp⟩ st Q) : EvO P ops (⟨some dst, .call ⟨.builtin .len, #[xo], #[t]⟩, ty, p, a, g⟩ :: rest) ⟨n, loc, tmp⟩ st Q := by
  refine EvO.L hb0 hg rfl (d := .int .i64 (b.length : Nat)) (st1 := st) ?_ h
  simp only [opD, List.map_cons, List.map_nil, hx, builtinD, ht]

end Go.V
