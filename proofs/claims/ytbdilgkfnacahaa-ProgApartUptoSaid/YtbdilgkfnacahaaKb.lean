/-
  Own lists whose elements hold own lists: their length, a place in them, written in place.
-/
import Derived.Test.YtbdilgkfnacahaaKa
namespace Go.V
set_option linter.unusedSimpArgs false
set_option linter.unusedVariables false
set_option linter.unusedSectionVars false

variable {N : Nat} {S st : St} {H : List Ent}

theorem All2.at_ {α β : Type} {R : α → β → Prop} : ∀ {l : List α} {m : List β} {i : Nat} {b : β}, All2 R l m → m[i]? = some b → ∃ a, l[i]? = some a ∧ R a b
  | _, _, _, _, .nil, h => by simp at h
  | _, _, 0, _, .cons a t, h => by simp only [List.getElem?_cons_zero, Option.some.injEq] at h; subst h; exact ⟨_, rfl, a⟩
  | _, _, i + 1, _, .cons a t, h => by simp only [List.getElem?_cons_succ] at h ⊢; exact t.at_ h
theorem All2.set {α β : Type} {R : α → β → Prop} {a : α} {b : β} (r : R a b) : ∀ {l : List α} {m : List β} (i : Nat), All2 R l m → All2 R (l.set i a) (m.set i b)
  | _, _, _, .nil => .nil
  | _, _, 0, .cons _ t => .cons r t
  | _, _, i + 1, .cons h t => .cons h (t.set r i)
theorem All2.setMany {R : D → D → Prop} : ∀ {xs ys : List D} {c d : List D} (o : Nat), All2 R xs ys → All2 R c d → All2 R (setMany c o xs) (setMany d o ys)
  | _, _, _, _, _, .nil, h => h
  | _, _, _, _, o, .cons r t, h => by simp only [Go.V.setMany]; exact t.setMany (o + 1) (h.set r o)
theorem All2.same {R : D → D → Prop} : ∀ {l : List D}, (∀ d ∈ l, R d d) → All2 R l l
  | [], _ => .nil
  | d :: l, h => .cons (h d (List.mem_cons_self ..)) (All2.same fun x hx => h x (List.mem_cons_of_mem _ hx))

theorem Has.drows {j : Nat} {x : D} {s : Nat} {ks : Nat → Prop} {vs : List (List D)} (hH : Has N S st H) (hj : H[j]? = some (.deep ks x s vs)) : ∃ es, Rows st s x es ∧ es.length = vs.length := by
  obtain ⟨⟨es, h1, h2⟩, _⟩ := (hH.ok j _ hj).1
  exact ⟨es, h1.rows, h2.len⟩

theorem Has.dset {j k ver off len s : Nat} {ks : Nat → Prop} {vs : List (List D)} {i o : Nat} {v cs : List D} (h : Has N S st H) (hj : H[j]? = some (.deep ks (.win k ver off len s) s vs)) (hi : vs[i]? = some v) (hl : o + cs.length ≤ s) (hp : ∀ d ∈ cs, plainC d = true) (hw : S.flr ≤ N ∨ refs cs = 0) :
    ∃ st', st.wr k ver (off + i * s + o) cs = some st' ∧ Has N S st' (H.set j (.deep ks (.win k ver off len s) s (vs.set i (setMany v o cs)))) := by
  obtain ⟨⟨es, he1, he2⟩, he3⟩ := (h.ok j _ hj).1
  have hK := (h.ok j _ hj).2
  obtain ⟨e, hei, hev⟩ := he2.at_ hi
  have hH1 : Has N S st [.lst (.win k ver off len s) s es] := by
    refine ⟨h.ex, h.hN, h.hro, fun i e hi => ?_, fun i i' a b hii ha hb k hka hkb => ?_⟩
    · cases i with
      | zero => simp only [List.getElem?_cons_zero, Option.some.injEq] at hi; subst hi; exact ⟨he1, fun k hk => hK k (.inl hk)⟩
      | succ i => simp at hi
    · cases i with
      | zero => cases i' with
        | zero => exact hii rfl
        | succ i' => simp at hb
      | succ i => simp at ha
  obtain ⟨st', q1, q2⟩ := hH1.setElem (j := 0) at0 hei hl hw
  refine ⟨st', q1, ?_⟩
  have hown := q2.own (j := 0) at0
  have hch : (∀ n, n ≠ k → st'.bs[n]? = st.bs[n]?) ∧ st.bs.length = st'.bs.length ∧ st'.flr = st.flr ∧ st'.ro = st.ro := by
    unfold St.wr at q1
    split at q1
    · split at q1
      · cases q1
        exact ⟨fun n hn => by simp only; rw [List.getElem?_set_ne (fun e => hn e.symm)], by simp, rfl, rfl⟩
      · cases q1
    · cases q1
  obtain ⟨c1, c2, c3, c4⟩ := hch
  have hkk := hK k (.inl (by simp only [D.ref]))
  have hne : ∀ n, ks n → n ≠ k := fun n hn e => he3 k (by simp only [D.ref]) (e ▸ hn)
  have hmove : ∀ n, ks n → st'.bs[n]? = st.bs[n]? := fun n hn => c1 n (hne n hn)
  refine h.upd hj (fun n hn hnot => c1 n fun e => hnot (.inl (by simp only [D.ref]; omega))) (Nat.le_of_eq c2) c3 c4 ⟨⟨_, hown, ?_⟩, he3⟩ (fun n hn => .inl hn) fun n hn => ?_
  · refine All2.set ?_ i (he2.mono fun a b => All2.mono fun c d => DeepC.move hmove)
    exact (All2.same fun d hd => .plain d (hp d hd)).setMany o (hev.mono fun c d => DeepC.move hmove)
  · rw [← c2]; exact (hK n hn).2

variable {P : Pv} {ops : Array Oper} {rest : List Oper} {fr fr' : Fr} {Q : Fr → St → Prop} {ty : TypeId} {pp : String} {a : Array Edge} {g : Option (Nat × Bool)} {dst : Nat}

theorem EvO.dlen {t e : TypeId} {xo : Operand} {x : D} {s j : Nat} {ks : Nat → Prop} {vs : List (List D)} (hH : Has N S st H) (hg : wantD ops fr ⟨some dst, .call ⟨.builtin .len, #[xo], #[t]⟩, ty, pp, a, g⟩ = some true) (hx : fr.ev xo = x) (hj : H[j]? = some (.deep ks x s vs)) (ht : P.und t = some (.slice e)) (hp : fr.put dst (.int .i64 (vs.length : Nat)) = fr')
    (h : EvO P ops rest fr' st Q) : EvO P ops (⟨some dst, .call ⟨.builtin .len, #[xo], #[t]⟩, ty, pp, a, g⟩ :: rest) fr st Q := by
  obtain ⟨es, h1, h2⟩ := hH.drows hj
  exact EvO.rlen hg hx h1 ht (by rw [h2]; exact hp) h

theorem EvO.didx {t e : TypeId} {xo io : Operand} {x : D} {s i j : Nat} {kk : IntKind} {ks : Nat → Prop} {vs : List (List D)} {fr' : D → Fr} (hH : Has N S st H) (hg : wantD ops fr ⟨some dst, .indexAddr t xo io, ty, pp, a, g⟩ = some true) (hx : fr.ev xo = x) (hi : fr.ev io = .int kk (i : Nat)) (hj : H[j]? = some (.deep ks x s vs)) (ht : P.und t = some (.slice e)) (hs : szOf P e = some s) (hr : i < vs.length) (hp : ∀ p, fr.put dst p = fr' p)
    (h : ∀ p, EPtr x s i 0 p → EvO P ops rest (fr' p) st Q) : EvO P ops (⟨some dst, .indexAddr t xo io, ty, pp, a, g⟩ :: rest) fr st Q := by
  obtain ⟨⟨es, he1, he2⟩, he3⟩ := (hH.ok j _ hj).1
  have hlen := he2.len
  cases he1 with
  | nul => simp at hlen; omega
  | win k ver off es c hm hl hc he =>
    refine EvO.go hg rfl (d := .ptr k ver (off + i * s)) (st1 := st) ?_ (hp _) (h _ ⟨k, ver, off, _, rfl, rfl⟩)
    simp only [opD, hx, hi, indexAddrD, ht, hs, Option.bind_some, St.mem_of hm, Option.isSome_some]
    rw [if_pos ⟨trivial, by omega, by omega, trivial⟩]; rfl

theorem EvO.dstore {t : TypeId} {ao vo : Operand} {x y v : D} {s i o j : Nat} {ks : Nat → Prop} {vs : List (List D)} {r cs : List D} (hH : Has N S st H) (hg : wantD ops fr ⟨none, .store t ao vo, ty, pp, a, g⟩ = some true) (ha : fr.ev ao = y) (hv : fr.ev vo = v) (hR : EPtr x s i o y) (hcs : v.cells? = some cs) (hs : szOf P t = some cs.length) (hj : H[j]? = some (.deep ks x s vs)) (hr : vs[i]? = some r) (hl : o + cs.length ≤ s) (hq : ∀ d ∈ cs, plainC d = true) (hw : S.flr ≤ N ∨ refs cs = 0)
    (h : ∀ st', Has N S st' (H.set j (.deep ks x s (vs.set i (setMany r o cs)))) → EvO P ops rest fr st' Q) : EvO P ops (⟨none, .store t ao vo, ty, pp, a, g⟩ :: rest) fr st Q := by
  obtain ⟨k, ver, off, len, rfl, rfl⟩ := hR
  obtain ⟨st', h1, h2⟩ := hH.dset hj hr hl hq hw
  refine EvO.N hg rfl (d := .tup []) (st1 := st') ?_ (h _ h2)
  simp only [opD, ha, hv, storeD, hcs, hs, if_pos trivial, h1]; rfl

/-- behind a region: what some slots hold -/
theorem EvC.cutW {dy : Dy} {i : Nat} {l : List Oper} {d n loc tmp st} {Q : Out → Fr → St → Prop} (ws : List Nat) (F : (Nat → D) → Prop)
    (h1 : EvO P l.toArray l ⟨n, loc, []⟩ st fun fr' st' => ∃ f tmp, fr' = ⟨n, setW loc ws f, tmp⟩ ∧ st' = st ∧ F f) (h2 : ∀ f tmp, F f → Q .next ⟨n, setW loc ws f, tmp⟩ st) (h0 : lookDy i dy = [] := by rfl) : EvC P dy (.region i l.toArray d) ⟨n, loc, tmp⟩ st Q := by
  refine EvC.reg ?_ h0
  unfold EvO at h1 ⊢
  obtain ⟨fr', st', h3, f, tmp', rfl, rfl, h4⟩ := h1
  exact ⟨_, _, h3, h2 _ _ h4⟩
theorem leafW {n : Nat} {L loc : List D} {tmp0 : List (Nat × D)} {ws : List Nat} {F : (Nat → D) → Prop} {st : St} (h : L = setW loc ws (fun k => nth .junk L k)) (h2 : F (fun k => nth .junk L k)) : ∃ (f : Nat → D) (tmp : List (Nat × D)), (⟨n, L, tmp0⟩ : Fr) = ⟨n, setW loc ws f, tmp⟩ ∧ st = st ∧ F f := ⟨_, tmp0, by rw [← h], rfl, h2⟩
theorem EvO.minZ {t1 t2 : TypeId} {xo yo : Operand} {x y z : Int} (hg : wantD ops fr ⟨some dst, .call ⟨.builtin .min, #[xo, yo], #[t1, t2]⟩, ty, pp, a, g⟩ = some true) (hx : fr.ev xo = .int .i64 x) (hy : fr.ev yo = .int .i64 y) (hz : min x y = z) (hp : fr.put dst (.int .i64 z) = fr') (h : EvO P ops rest fr' st Q) : EvO P ops (⟨some dst, .call ⟨.builtin .min, #[xo, yo], #[t1, t2]⟩, ty, pp, a, g⟩ :: rest) fr st Q :=
  EvO.minS (t1 := t1) (t2 := t2) hg hx hy (by rw [hz]; exact hp) h

/-- of what was there, a list's elements have been written -/
theorem Has.leaveRwL {N : Nat} {S s0 S2 st2 : St} {H : List Ent} {x : D} {s : Nat} {es es' : List (List D)} (h : Has N S s0 (.lst x s es :: H)) (hS : S2.bs = s0.bs) (h2 : Has N S2 st2 (.lst x s es' :: H)) : Has N S ⟨st2.bs.take s0.bs.length, s0.flr, s0.ro⟩ (.lst x s es' :: H) := by
  refine h.leaveRw hS h2 fun i e hi => ?_
  cases i with
  | zero => simp only [List.getElem?_cons_zero, Option.some.injEq] at hi; subst hi; exact ⟨_, rfl, fun k hk => hk⟩
  | succ i => exact ⟨e, hi, fun k hk => hk⟩
theorem Has.leaveRwD {N : Nat} {S s0 S2 st2 : St} {H : List Ent} {k : Nat} {b b' : Box} {ks : Nat → Prop} {x : D} {s : Nat} {vs vs' : List (List D)} (h : Has N S s0 (.box k b :: .deep ks x s vs :: H)) (hS : S2.bs = s0.bs) (h2 : Has N S2 st2 (.box k b' :: .deep ks x s vs' :: H)) : Has N S ⟨st2.bs.take s0.bs.length, s0.flr, s0.ro⟩ (.box k b' :: .deep ks x s vs' :: H) := by
  refine h.leaveRw hS h2 fun i e hi => ?_
  match i with
  | 0 => simp only [List.getElem?_cons_zero, Option.some.injEq] at hi; subst hi; exact ⟨_, rfl, fun k hk => hk⟩
  | 1 => simp only [List.getElem?_cons_succ, List.getElem?_cons_zero, Option.some.injEq] at hi; subst hi; exact ⟨_, rfl, fun k hk => hk⟩
  | i + 2 => exact ⟨e, hi, fun k hk => hk⟩

theorem Has.rot5 {N : Nat} {S st : St} {H : List Ent} {a b c d e : Ent} (h : Has N S st (a :: b :: c :: d :: e :: H)) : Has N S st (b :: c :: d :: e :: a :: H) := by
  refine h.sub (fun i => if i = 4 then 0 else if i < 4 then i + 1 else i) (fun i j hij => ?_) (fun i x hi => ?_)
  · try simp only at hij
    split at hij <;> split at hij <;> (try split at hij) <;> (try split at hij) <;> omega
  · match i, hi with
    | 0, hi => exact hi
    | 1, hi => exact hi
    | 2, hi => exact hi
    | 3, hi => exact hi
    | 4, hi => exact hi
    | i + 5, hi =>
      have h1 : ¬ (i + 5 = 4) := by omega
      have h2 : ¬ (i + 5 < 4) := by omega
      simp only [if_neg h1, if_neg h2]
      exact hi

theorem Has.resCellTT {fr : Fr} {a k ver off j u u2 : Nat} {t : TypeId} {ar : Bool} {c : List D} {d e e2 : D} (hH : Has N S st H) (ha : fr.get a = .ptr k ver off) (hj : H[j]? = some (.box k (.mem ver ar c))) (hd : takeD P t (c.drop off) = some d) (he : fr.get u = e) (he2 : fr.get u2 = e2) : resD P fr st [.cell a t, .tmp u, .tmp u2] = some [d, e, e2] := by
  simp only [resD, loadD, ha, St.mem_of (hH.at hj), Option.bind_some, hd, Option.map_some, he, he2]
end Go.V
