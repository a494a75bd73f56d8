/-
  Steps that make and write rows.
-/
import Derived.Test.YtlljdbhefepheaaLd
namespace Go.V
set_option linter.unusedSimpArgs false
set_option linter.unusedVariables false
set_option linter.unusedSectionVars false

theorem setMany_eq : ∀ (xs c : List D) (off : Nat), off + xs.length ≤ c.length → setMany c off xs = c.take off ++ xs ++ c.drop (off + xs.length)
  | [], c, off, h => by simp [setMany]
  | x :: xs, c, off, h => by
    simp only [setMany]
    simp only [List.length_cons] at h
    rw [setMany_eq xs (c.set off x) (off + 1) (by simp; omega)]
    have h1 : (c.set off x).take (off + 1) = c.take off ++ [x] := by
      rw [List.take_set, List.take_add_one, List.getElem?_eq_getElem (by omega : off < c.length)]
      simp only [Option.toList_some]
      rw [List.set_append_right _ _ (by simp; omega)]
      have : off - (c.take off).length = 0 := by simp; omega
      rw [this]; rfl
    have h2 : (c.set off x).drop (off + 1 + xs.length) = c.drop (off + (xs.length + 1)) := by
      rw [List.drop_set_of_lt (by omega)]; congr 1; omega
    rw [h1, h2]; simp [List.length_cons]

theorem repl_one (n : Nat) (d : D) : repl n [d] = List.replicate n d := by
  simp [repl]

theorem push_set {st : St} {b b' : Box} {k : Nat} (hk : k = st.bs.length) : (⟨(st.push b).bs.set k b', (st.push b).flr, (st.push b).ro⟩ : St) = st.push b' := by
  subst hk; simp [St.push, List.set_append_right]

theorem push_at (st : St) (b : Box) : (st.push b).bs[st.bs.length]? = some b := by simp [St.push]

variable {P : Pv} {ops : Array Oper} {rest : List Oper} {n : Nat} {loc : List D} {tmp : List (Nat × D)} {st : St} {Q : Fr → St → Prop} {ty : TypeId} {p : String} {a : Array Edge} {g : Option (Nat × Bool)} {dst : Nat}

theorem EvO.makeSlice {t e : TypeId} {lo co : Operand} {k1 k2 : IntKind} {m : Nat} {inf : TypeInfo} {z : List D} (hb0 : Nat.ble n dst = true) (hg : wantD ops ⟨n, loc, tmp⟩ ⟨some dst, .makeSlice t lo co, ty, p, a, g⟩ = some true)
    (hl : Fr.ev ⟨n, loc, tmp⟩ lo = .int k1 (m : Nat)) (hc : Fr.ev ⟨n, loc, tmp⟩ co = .int k2 (m : Nat)) (ht : P.und t = some (.slice e)) (hi : P.info e = some inf) (hz : zeroC P e = some z) (hzl : z.length = inf.size) (hm : m * inf.bytes ≤ 140737488355328) (hm2 : m ≤ 9223372036854775807)
    (h : EvO P ops rest ⟨n, loc, (dst, .win st.bs.length 0 0 m inf.size) :: tmp⟩ (st.push (.mem 0 true (repl m z))) Q) : EvO P ops (⟨some dst, .makeSlice t lo co, ty, p, a, g⟩ :: rest) ⟨n, loc, tmp⟩ st Q := by
  refine EvO.T hb0 hg rfl (d := .win st.bs.length 0 0 m inf.size) (st1 := st.push (.mem 0 true (repl m z))) ?_ h
  simp only [opD, hl, hc, makeSliceD, ht, hi, hz, Option.bind_some]
  rw [if_pos ⟨hzl, by omega, by omega, by omega, by rw [← Int.natCast_mul]; omega⟩]
  rfl

theorem wr_own {k ver off : Nat} {ar : Bool} {c cs : List D} (hm : st.bs[k]? = some (.mem ver ar c)) (hl : off + cs.length ≤ c.length) (hw : st.canW k (refs cs) = true) : st.wr k ver off cs = some { st with bs := st.bs.set k (.mem ver ar (c.take off ++ cs ++ c.drop (off + cs.length))) } := by
  simp only [St.wr, St.mem_of hm]
  rw [if_pos ⟨hl, hw⟩, setMany_eq _ _ _ hl]

theorem canW_own {N k r : Nat} (hk : N ≤ k) (hf : st.flr ≤ N) (hro : st.ro ≤ N) : st.canW k r = true := by
  simp only [St.canW, Bool.and_eq_true, Bool.or_eq_true, decide_eq_true_eq]; exact ⟨by omega, .inl (by omega)⟩

theorem canW_flat {k : Nat} (hro : st.ro ≤ k) : st.canW k 0 = true := by
  simp only [St.canW, Bool.and_eq_true, Bool.or_eq_true, decide_eq_true_eq]; exact ⟨hro, .inr (.inl (by omega))⟩

theorem EvO.copy {t1 t2 e : TypeId} {do_ so : Operand} {k ver off len s : Nat} {y : D} {ys : List (List D)} {ar : Bool} {c : List D} (hb0 : Nat.ble n dst = true) (hg : wantD ops ⟨n, loc, tmp⟩ ⟨some dst, .call ⟨.builtin .copy, #[do_, so], #[t1, t2]⟩, ty, p, a, g⟩ = some true)
    (hd : Fr.ev ⟨n, loc, tmp⟩ do_ = .win k ver off len s) (hy : Fr.ev ⟨n, loc, tmp⟩ so = y) (hR : Rows st s y ys) (ht : P.und t1 = some (.slice e)) (hs : szOf P e = some s) (hm : st.bs[k]? = some (.mem ver ar c)) (hl : off + len * s ≤ c.length)
    (hw : st.canW k (refs (ys.flatten.take (min ys.length len * s))) = true)
    (h : EvO P ops rest ⟨n, loc, (dst, .int .i64 (min ys.length len : Nat)) :: tmp⟩ { st with bs := st.bs.set k (.mem ver ar (c.take off ++ ys.flatten.take (min ys.length len * s) ++ c.drop (off + min ys.length len * s))) } Q) :
    EvO P ops (⟨some dst, .call ⟨.builtin .copy, #[do_, so], #[t1, t2]⟩, ty, p, a, g⟩ :: rest) ⟨n, loc, tmp⟩ st Q := by
  have hyl : ∀ e ∈ ys, e.length = s := fun e he => by
    obtain ⟨i, hi⟩ := List.getElem?_of_mem he
    exact hR.elen i e hi
  have hfl := flat_len hyl
  have hmin : min ys.length len * s ≤ ys.length * s := Nat.mul_le_mul_right s (Nat.min_le_left _ _)
  have hmin2 : min ys.length len * s ≤ len * s := Nat.mul_le_mul_right s (Nat.min_le_right _ _)
  have htl : (ys.flatten.take (min ys.length len * s)).length = min ys.length len * s := by rw [List.length_take, hfl]; omega
  refine EvO.T hb0 hg rfl (d := .int .i64 (min ys.length len : Nat)) (st1 := { st with bs := st.bs.set k (.mem ver ar (c.take off ++ ys.flatten.take (min ys.length len * s) ++ c.drop (off + min ys.length len * s))) }) ?_ h
  simp only [opD, List.map_cons, List.map_nil, hd, hy, builtinD, copyD, ht, hs, Option.bind_some, hR.row]
  rw [if_neg (by simp [hfl])]
  simp only [ne_eq, not_true_eq_false, if_false]
  have := wr_own (st := st) hm (cs := ys.flatten.take (min ys.length len * s)) (off := off) (by rw [htl]; omega) hw
  rw [this, htl]; rfl

theorem mem_push (st : St) (v : Nat) (a : Bool) (c : List D) : (st.push (.mem v a c)).mem? st.bs.length v = some (a, c) := St.mem_of (push_at st _)

theorem EvO.store {fr : Fr} {t : TypeId} {ao vo : Operand} {k ver off : Nat} {v : D} {cs : List D} {ar : Bool} {c : List D} (hg : wantD ops fr ⟨none, .store t ao vo, ty, p, a, g⟩ = some true) (ha : fr.ev ao = .ptr k ver off) (hv : fr.ev vo = v)
    (hcs : v.cells? = some cs) (hs : szOf P t = some cs.length) (hm : st.bs[k]? = some (.mem ver ar c)) (hl : off + cs.length ≤ c.length) (hw : st.canW k (refs cs) = true)
    (h : EvO P ops rest fr { st with bs := st.bs.set k (.mem ver ar (c.take off ++ cs ++ c.drop (off + cs.length))) } Q) : EvO P ops (⟨none, .store t ao vo, ty, p, a, g⟩ :: rest) fr st Q := by
  refine EvO.N hg rfl (d := .tup []) (st1 := _) ?_ h
  simp only [opD, ha, hv, storeD, hcs, hs]
  rw [if_pos trivial, wr_own hm hl hw]; rfl

theorem EvO.load {t : TypeId} {ao : Operand} {k ver off : Nat} {d : D} {ar : Bool} {c : List D} (hb0 : Nat.ble n dst = true) (hg : wantD ops ⟨n, loc, tmp⟩ ⟨some dst, .load t ao, ty, p, a, g⟩ = some true) (ha : Fr.ev ⟨n, loc, tmp⟩ ao = .ptr k ver off)
    (hm : st.bs[k]? = some (.mem ver ar c)) (hd : takeD P t (c.drop off) = some d)
    (h : EvO P ops rest ⟨n, loc, (dst, d) :: tmp⟩ st Q) : EvO P ops (⟨some dst, .load t ao, ty, p, a, g⟩ :: rest) ⟨n, loc, tmp⟩ st Q := by
  refine EvO.T hb0 hg rfl (d := d) (st1 := st) ?_ h
  simp only [opD, ha, loadD, St.mem_of hm, Option.bind_some, hd, Option.map_some]

theorem EvO.idxStore {t e : TypeId} {xo io vo : Operand} {d1 : Nat} {ty1 ty2 : TypeId} {p1 p2 : String} {a1 a2 : Array Edge} {g1 g2 : Option (Nat × Bool)} {kk : IntKind} {i : Int} {k ver off len s : Nat} {v : D} {cs : List D} {ar : Bool} {c : List D}
    (hb1 : Nat.ble n d1 = true) (hg1 : wantD ops ⟨n, loc, tmp⟩ ⟨some d1, .indexAddr t xo io, ty1, p1, a1, g1⟩ = some true) (hg2 : wantD ops ⟨n, loc, (d1, .ptr k ver (off + i.toNat * s)) :: tmp⟩ ⟨none, .store e (.tmp d1) vo, ty2, p2, a2, g2⟩ = some true)
    (hx : Fr.ev ⟨n, loc, tmp⟩ xo = .win k ver off len s) (hi : Fr.ev ⟨n, loc, tmp⟩ io = .int kk i) (hv : Fr.ev ⟨n, loc, (d1, .ptr k ver (off + i.toNat * s)) :: tmp⟩ vo = v) (ht : P.und t = some (.slice e)) (hs : szOf P e = some s) (hcs : v.cells? = some cs) (hcl : cs.length = s)
    (h0 : 0 ≤ i) (hlt : i < len) (hm : st.bs[k]? = some (.mem ver ar c)) (hl : off + len * s ≤ c.length) (hw : st.canW k (refs cs) = true)
    (h : EvO P ops rest ⟨n, loc, (d1, .ptr k ver (off + i.toNat * s)) :: tmp⟩ { st with bs := st.bs.set k (.mem ver ar (c.take (off + i.toNat * s) ++ cs ++ c.drop (off + i.toNat * s + s))) } Q) :
    EvO P ops (⟨some d1, .indexAddr t xo io, ty1, p1, a1, g1⟩ :: ⟨none, .store e (.tmp d1) vo, ty2, p2, a2, g2⟩ :: rest) ⟨n, loc, tmp⟩ st Q := by
  have h3 : (i.toNat + 1) * s ≤ len * s := Nat.mul_le_mul_right s (by omega)
  rw [Nat.add_mul, Nat.one_mul] at h3
  refine EvO.T hb1 hg1 rfl (d := .ptr k ver (off + i.toNat * s)) (st1 := st) ?_ ?_
  · simp only [opD, hx, hi, indexAddrD, ht, hs, Option.bind_some, St.mem_of hm, Option.isSome_some]
    rw [if_pos ⟨trivial, h0, hlt, trivial⟩]; rfl
  refine EvO.N hg2 rfl (d := .tup []) (st1 := _) ?_ h
  have hev : Fr.ev ⟨n, loc, (d1, .ptr k ver (off + i.toNat * s)) :: tmp⟩ (.tmp d1) = .ptr k ver (off + i.toNat * s) := by
    simp only [Fr.ev, Fr.get, hb1, look, Nat.beq_refl]
  simp only [opD, hev, hv, storeD, hcs, hs, if_pos hcl.symm, hcl]
  have := wr_own (st := st) hm (cs := cs) (off := off + i.toNat * s) (by omega) hw
  rw [hcl] at this
  rw [if_pos trivial, this]; rfl

theorem Rows.idxField {P : Pv} {st : St} {s : Nat} {x : D} {es : List (List D)} (h : Rows st s x es) {t e tf : TypeId} {fields : Array Field} {fd : Field} {f m : Nat} (ht : P.und t = some (.slice e)) (hs : szOf P e = some s) (he : P.und e = some (.struct fields)) (hf : fields[f]? = some fd) (hm : szOf P fd.type = some m) (hm0 : m ≠ 0) (hm2 : szOf P tf = some m) (hom : fd.offset + m ≤ s)
    {k : IntKind} {i : Int} {r : List D} (h0 : 0 ≤ i) (hi : es[i.toNat]? = some r) :
    ∃ p p', indexAddrD P t x (.int k i) st = some p ∧ fieldAddrD P e p f = some p' ∧ ∀ d, takeD P tf ((r.drop fd.offset).take m) = some d → loadD P tf p' st = some d := by
  have hrl := h.elen _ _ hi
  have hlen : ((r.drop fd.offset).take m).length = m := by simp; omega
  have hfa : ∀ p, fieldAddrD P e p f = (match p with | .ptr k ver off => some (.ptr k ver (off + fd.offset)) | .ep c => some (.ep (c.drop fd.offset)) | _ => none) := by
    intro p
    simp only [fieldAddrD, he, hf, Option.bind_some, hm]
    rw [if_neg (by simp only [Option.some.injEq]; exact hm0)]
    cases p <;> rfl
  cases h with
  | nul => simp at hi
  | sl es h =>
    rw [List.getElem?_map] at hi
    obtain ⟨d, hd, rfl⟩ := Option.map_eq_some_iff.1 hi
    obtain ⟨h1, h2⟩ := h d (List.mem_of_getElem? hd)
    refine ⟨.ep d.cells, .ep (d.cells.drop fd.offset), ?_, by rw [hfa], fun d' h' => takeD_head hm2 rfl hlen h'⟩
    simp only [indexAddrD, ht, hs, Option.bind_some, if_pos h0, hd, h1, if_pos h2]
  | win k' ver off es ar c hmm hl he' =>
    have hlt : i.toNat < es.length := by
      rcases Nat.lt_or_ge i.toNat es.length with h' | h'
      · exact h'
      · rw [List.getElem?_eq_none h'] at hi; cases hi
    refine ⟨.ptr k' ver (off + i.toNat * s), .ptr k' ver (off + i.toNat * s + fd.offset), ?_, by rw [hfa], fun d' h' => ?_⟩
    · simp only [indexAddrD, ht, hs, Option.bind_some, hmm, Option.isSome_some]
      rw [if_pos ⟨trivial, h0, by omega, trivial⟩]
    · simp only [loadD, hmm, Option.bind_some]
      refine takeD_head hm2 ?_ hlen h'
      rw [← he' _ _ hi, List.drop_take, List.take_take, List.drop_drop, Nat.min_eq_left (by omega)]

theorem EvO.idxField {t e tf : TypeId} {xo io : Operand} {d1 d2 d3 f : Nat} {ty1 ty2 ty3 : TypeId} {p1 p2 p3 : String} {a1 a2 a3 : Array Edge} {g1 g2 g3 : Option (Nat × Bool)} {x : D} {k : IntKind} {i : Int} {s m : Nat} {es : List (List D)} {r : List D} {d : D} {fields : Array Field} {fd : Field}
    (hb1 : Nat.ble n d1 = true) (hb2 : Nat.ble n d2 = true) (hb3 : Nat.ble n d3 = true) (hg1 : wantD ops ⟨n, loc, tmp⟩ ⟨some d1, .indexAddr t xo io, ty1, p1, a1, g1⟩ = some true) (hg2 : ∀ p, wantD ops ⟨n, loc, (d1, p) :: tmp⟩ ⟨some d2, .fieldAddr e (.tmp d1) f, ty2, p2, a2, g2⟩ = some true) (hg3 : ∀ p p', wantD ops ⟨n, loc, (d2, p') :: (d1, p) :: tmp⟩ ⟨some d3, .load tf (.tmp d2), ty3, p3, a3, g3⟩ = some true)
    (hx : Fr.ev ⟨n, loc, tmp⟩ xo = x) (hi : Fr.ev ⟨n, loc, tmp⟩ io = .int k i) (hR : Rows st s x es) (ht : P.und t = some (.slice e)) (hs : szOf P e = some s) (he : P.und e = some (.struct fields)) (hf : fields[f]? = some fd) (hm : szOf P fd.type = some m) (hm0 : m ≠ 0) (hm2 : szOf P tf = some m) (hom : fd.offset + m ≤ s)
    (h0 : 0 ≤ i) (hr : es[i.toNat]? = some r) (hd : takeD P tf ((r.drop fd.offset).take m) = some d)
    (h : ∀ p p', EvO P ops rest ⟨n, loc, (d3, d) :: (d2, p') :: (d1, p) :: tmp⟩ st Q) : EvO P ops (⟨some d1, .indexAddr t xo io, ty1, p1, a1, g1⟩ :: ⟨some d2, .fieldAddr e (.tmp d1) f, ty2, p2, a2, g2⟩ :: ⟨some d3, .load tf (.tmp d2), ty3, p3, a3, g3⟩ :: rest) ⟨n, loc, tmp⟩ st Q := by
  obtain ⟨p, p', h1, h2, h3⟩ := hR.idxField ht hs he hf hm hm0 hm2 hom (k := k) h0 hr
  refine EvO.T hb1 hg1 rfl (d := p) (st1 := st) (by simp only [opD, hx, hi, h1, Option.map_some]) ?_
  refine EvO.T hb2 (hg2 p) rfl (d := p') (st1 := st) ?_ ?_
  · have : Fr.ev ⟨n, loc, (d1, p) :: tmp⟩ (.tmp d1) = p := by simp only [Fr.ev, Fr.get, hb1, look, Nat.beq_refl]
    simp only [opD, this, h2, Option.map_some]
  refine EvO.T hb3 (hg3 p p') rfl (d := d) (st1 := st) ?_ (h p p')
  have : Fr.ev ⟨n, loc, (d2, p') :: (d1, p) :: tmp⟩ (.tmp d2) = p' := by simp only [Fr.ev, Fr.get, hb2, look, Nat.beq_refl]
  simp only [opD, this, h3 d hd, Option.map_some]

/-- a text as new bytes -/
theorem EvO.convBytes {s t e : TypeId} {xo : Operand} {b : List UInt8} (hb0 : Nat.ble n dst = true) (hg : wantD ops ⟨n, loc, tmp⟩ ⟨some dst, .convert s t xo, ty, p, a, g⟩ = some true) (hx : Fr.ev ⟨n, loc, tmp⟩ xo = .str b) (h1 : P.und s = some .string) (h2 : P.und t = some (.slice e)) (h3 : P.und e = some (.int .u8)) (hl : b.length < 1099511627776)
    (h : EvO P ops rest ⟨n, loc, (dst, .win st.bs.length 0 0 b.length 1) :: tmp⟩ (st.push (.mem 0 true (b.map fun y => .int .u8 (y.toNat : Nat)))) Q) : EvO P ops (⟨some dst, .convert s t xo, ty, p, a, g⟩ :: rest) ⟨n, loc, tmp⟩ st Q := by
  refine EvO.T hb0 hg rfl (d := .win st.bs.length 0 0 b.length 1) (st1 := st.push (.mem 0 true (b.map fun y => .int .u8 (y.toNat : Nat)))) ?_ h
  simp only [opD, hx, convD, h1, h2, h3, if_pos hl]

/-- the next rune of a text -/
theorem EvO.next {io : Operand} {k pos : Nat} {b : List UInt8} (hb0 : Nat.ble n dst = true) (hg : wantD ops ⟨n, loc, tmp⟩ ⟨some dst, .next io true, ty, p, a, g⟩ = some true) (hx : Fr.ev ⟨n, loc, tmp⟩ io = .ptr k 0 0) (hm : st.bs[k]? = some (.iter b pos)) (hp : pos < b.length) (hw : st.canW k 0 = true)
    (h : EvO P ops rest ⟨n, loc, (dst, .tup [.bool true, .int .i64 (pos : Nat), .int .i32 ((Utf8.decode ⟨b.toArray⟩ pos).1 : Nat)]) :: tmp⟩ { st with bs := st.bs.set k (.iter b (pos + (Utf8.decode ⟨b.toArray⟩ pos).2)) } Q) : EvO P ops (⟨some dst, .next io true, ty, p, a, g⟩ :: rest) ⟨n, loc, tmp⟩ st Q := by
  refine EvO.T hb0 hg rfl (d := .tup [.bool true, .int .i64 (pos : Nat), .int .i32 ((Utf8.decode ⟨b.toArray⟩ pos).1 : Nat)]) (st1 := { st with bs := st.bs.set k (.iter b (pos + (Utf8.decode ⟨b.toArray⟩ pos).2)) }) ?_ h
  simp only [opD, hx, nextD, hm, if_pos hp, hw, if_true]

theorem EvO.nextEnd {io : Operand} {k pos : Nat} {b : List UInt8} (hb0 : Nat.ble n dst = true) (hg : wantD ops ⟨n, loc, tmp⟩ ⟨some dst, .next io true, ty, p, a, g⟩ = some true) (hx : Fr.ev ⟨n, loc, tmp⟩ io = .ptr k 0 0) (hm : st.bs[k]? = some (.iter b pos)) (hp : ¬ pos < b.length)
    (h : EvO P ops rest ⟨n, loc, (dst, .tup [.bool false]) :: tmp⟩ st Q) : EvO P ops (⟨some dst, .next io true, ty, p, a, g⟩ :: rest) ⟨n, loc, tmp⟩ st Q := by
  refine EvO.T hb0 hg rfl (d := .tup [.bool false]) (st1 := st) ?_ h
  simp only [opD, hx, nextD, hm, if_neg hp]

/-- a slice of an array that lies in a box -/
theorem EvO.sliceArr {t e : TypeId} {xo : Operand} {lo hi : Option Operand} {k v off m s l r : Nat} {ar : Bool} {c : List D} (hb0 : Nat.ble n dst = true) (hg : wantD ops ⟨n, loc, tmp⟩ ⟨some dst, .slice t xo lo hi none, ty, p, a, g⟩ = some true) (hx : Fr.ev ⟨n, loc, tmp⟩ xo = .ptr k v off) (ht : P.und t = some (.array m e)) (hs : szOf P e = some s)
    (hm : st.bs[k]? = some (.mem v ar c)) (hl : off + m * s ≤ c.length) (hb : boundsD m (lo.map (Fr.ev ⟨n, loc, tmp⟩)) (hi.map (Fr.ev ⟨n, loc, tmp⟩)) = some (l, r))
    (h : EvO P ops rest ⟨n, loc, (dst, .win k v (off + l * s) (r - l) s) :: tmp⟩ st Q) : EvO P ops (⟨some dst, .slice t xo lo hi none, ty, p, a, g⟩ :: rest) ⟨n, loc, tmp⟩ st Q := by
  refine EvO.T hb0 hg rfl (d := .win k v (off + l * s) (r - l) s) (st1 := st) ?_ h
  simp only [opD, hx, sliceD, ht, hs, Option.bind_some, St.mem_of hm, if_pos hl, hb, Option.map_some]

/-- an element of an array that lies in a box is written -/
theorem EvO.idxArr {t e : TypeId} {xo io : Operand} {k v off m s : Nat} {kk : IntKind} {i : Nat} (hb0 : Nat.ble n dst = true) (hg : wantD ops ⟨n, loc, tmp⟩ ⟨some dst, .indexAddr t xo io, ty, p, a, g⟩ = some true) (hx : Fr.ev ⟨n, loc, tmp⟩ xo = .ptr k v off) (hi : Fr.ev ⟨n, loc, tmp⟩ io = .int kk (i : Nat)) (ht : P.und t = some (.array m e)) (hs : szOf P e = some s) (hlt : i < m)
    (h : EvO P ops rest ⟨n, loc, (dst, .ptr k v (off + i * s)) :: tmp⟩ st Q) : EvO P ops (⟨some dst, .indexAddr t xo io, ty, p, a, g⟩ :: rest) ⟨n, loc, tmp⟩ st Q := by
  refine EvO.T hb0 hg rfl (d := .ptr k v (off + i * s)) (st1 := st) ?_ h
  simp only [opD, hx, hi, indexAddrD, ht, hs, Option.bind_some]
  rw [if_pos ⟨by omega, by omega⟩]; rfl

/-- below N all is as it was, but one box -/
structure Exk (N k : Nat) (st st' : St) : Prop where
  low : ∀ i, i < N → i ≠ k → st'.bs[i]? = st.bs[i]?
  len : st.bs.length ≤ st'.bs.length
  flr : st'.flr = st.flr
  ro : st'.ro = st.ro

theorem Exk.of {N k : Nat} {a b c : St} (h : Exk N k a b) (g : Ex N b c) : Exk N k a c :=
  ⟨fun i hi hk => (g.low i hi).trans (h.low i hi hk), Nat.le_trans h.len g.len, g.flr.trans h.flr, g.ro.trans h.ro⟩
theorem Exk.put {N k : Nat} {a b : St} (h : Exk N k a b) (bx : Box) : Exk N k a ⟨b.bs.set k bx, b.flr, b.ro⟩ :=
  ⟨fun i hi hk => by simp only; rw [List.getElem?_set_ne (fun e => hk e.symm)]; exact h.low i hi hk, by simp only [List.length_set]; exact h.len, h.flr, h.ro⟩
theorem Exk.take {k : Nat} {a b : St} (h : Exk a.bs.length k a b) (hk : k < a.bs.length) {bx : Box} (hb : b.bs[k]? = some bx) : b.bs.take a.bs.length = a.bs.set k bx := by
  apply List.ext_getElem?
  intro i
  rw [List.getElem?_take]
  by_cases hi : i < a.bs.length
  · rw [if_pos hi]
    by_cases he : i = k
    · subst he; rw [hb, List.getElem?_set_self hk]
    · rw [h.low i hi he, List.getElem?_set_ne (fun e => he e.symm)]
  · rw [if_neg hi, List.getElem?_eq_none (by simp; omega)]

theorem leave_rw {kn : Bool} {st st1 : St} {d d' : D} {bs' : List Box} (h1 : st1.bs.take st.bs.length = bs') (hd : freezeD st1 st.bs.length kn 16 d = some d') : leaveD .rw kn st st1 d = some (d', ⟨bs', st.flr, st.ro⟩) := by
  simp only [leaveD, hd, h1]

/-- texts behind each other -/
theorem EvO.addS {t ty2 : TypeId} {xo yo : Operand} {x y : List UInt8} (hb0 : Nat.ble n dst = true) (hg : wantD ops ⟨n, loc, tmp⟩ ⟨some dst, .binOp .add t xo yo ty2, ty, p, a, g⟩ = some true) (hx : Fr.ev ⟨n, loc, tmp⟩ xo = .str x) (hy : Fr.ev ⟨n, loc, tmp⟩ yo = .str y) (hl : x.length + y.length ≤ 9223372036854775807)
    (h : EvO P ops rest ⟨n, loc, (dst, .str (x ++ y)) :: tmp⟩ st Q) : EvO P ops (⟨some dst, .binOp .add t xo yo ty2, ty, p, a, g⟩ :: rest) ⟨n, loc, tmp⟩ st Q := by
  refine EvO.T hb0 hg rfl (d := .str (x ++ y)) (st1 := st) ?_ h
  simp only [opD, hx, hy, binD, strD, if_pos hl, Option.map_some]

/-- how long a text is -/
theorem EvO.lenS {t : TypeId} {xo : Operand} {b : List UInt8} (hb0 : Nat.ble n dst = true) (hg : wantD ops ⟨n, loc, tmp⟩ ⟨some dst, .call ⟨.builtin .len, #[xo], #[t]⟩, ty, p, a, g⟩ = some true) (hx : Fr.ev ⟨n, loc, tmp⟩ xo = .str b) (ht : P.und t = some .string)
    (h : EvO P ops rest ⟨n, loc, (dst, .int .i64 (b.length : Nat)) :: tmp⟩ st Q) : EvO P ops (⟨some dst, .call ⟨.builtin .len, #[xo], #[t]⟩, ty, p, a, g⟩ :: rest) ⟨n, loc, tmp⟩ st Q := by
  refine EvO.T hb0 hg rfl (d := .int .i64 (b.length : Nat)) (st1 := st) ?_ h
  simp only [opD, List.map_cons, List.map_nil, hx, builtinD, ht]
end Go.V
