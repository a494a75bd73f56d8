/-
  Functions that write what was there before, and forget what they made: entering, leaving. Lists that grow, and where they lie.
-/
import Derived.Test.YtbdilgkfnacahaaM2
namespace Go.V
set_option linter.unusedSimpArgs false
set_option linter.unusedVariables false
set_option linter.unusedSectionVars false

variable {N : Nat} {S st : St} {H : List Ent}

theorem Has.enterRw {s0 : St} (h : Has N S s0 H) : Has N (enterSt .rw s0) (enterSt .rw s0) H :=
  ⟨Ex.refl _ _, Nat.le_trans h.hN h.ex.len, by show s0.ro ≤ N; rw [h.ex.ro]; exact h.hro, fun i e hi => ⟨e.loc (st := s0) (st' := enterSt .rw s0) (fun k _ => rfl) (h.ok i e hi).1, (h.ok i e hi).2⟩, h.dis⟩

theorem leaveD_rw {kn : Bool} {s0 st : St} {d d' : D} (hd : freezeD st s0.bs.length kn 16 d = some d') : leaveD .rw kn s0 st d = some (d', ⟨st.bs.take s0.bs.length, s0.flr, s0.ro⟩) := by
  simp only [leaveD, hd]

theorem Has.leaveRw {s0 S2 st2 : St} {H2 : List Ent} (h : Has N S s0 H) (hS : S2.bs = s0.bs) (h2 : Has N S2 st2 H2) (hk : ∀ (i : Nat) e, H2[i]? = some e → ∃ e', H[i]? = some e' ∧ ∀ k, e.K k → e'.K k) : Has N S ⟨st2.bs.take s0.bs.length, s0.flr, s0.ro⟩ H2 := by
  have hL : s0.bs.length ≤ st2.bs.length := by have := h2.ex.len; rw [hS] at this; exact this
  have hSL := h.ex.len
  have hNL := h.hN
  refine ⟨⟨fun k hk' => ?_, ?_, h.ex.flr, h.ex.ro⟩, h.hN, h.hro, fun i e hi => ?_, h2.dis⟩
  · show (st2.bs.take s0.bs.length)[k]? = _
    rw [List.getElem?_take, if_pos (by omega), h2.ex.low k hk', hS]; exact h.ex.low k hk'
  · show _ ≤ (st2.bs.take s0.bs.length).length
    rw [List.length_take]; omega
  · obtain ⟨e', he', hkk⟩ := hk i e hi
    have h3 := (h.ok i e' he').2
    refine ⟨e.loc (fun k hk' => ?_) (h2.ok i e hi).1, fun k hk' => ⟨(h3 k (hkk k hk')).1, ?_⟩⟩
    · show (st2.bs.take s0.bs.length)[k]? = _
      rw [List.getElem?_take, if_pos (h3 k (hkk k hk')).2]
    · show k < (st2.bs.take s0.bs.length).length
      rw [List.length_take]
      have := (h3 k (hkk k hk')).2
      omega

/-- of what was there, one box has been written -/
theorem Has.leaveRw1 {s0 S2 st2 : St} {k : Nat} {b b' : Box} (h : Has N S s0 (.box k b :: H)) (hS : S2.bs = s0.bs) (h2 : Has N S2 st2 (.box k b' :: H)) : Has N S ⟨st2.bs.take s0.bs.length, s0.flr, s0.ro⟩ (.box k b' :: H) := by
  refine h.leaveRw hS h2 fun i e hi => ?_
  cases i with
  | zero => simp only [List.getElem?_cons_zero, Option.some.injEq] at hi; subst hi; exact ⟨_, rfl, fun k hk => hk⟩
  | succ i => exact ⟨e, hi, fun k hk => hk⟩

/-- a list that grows: where it lies behind it -/
theorem Has.append5 {P : Pv} {j : Nat} {x y x' : D} {s : Nat} {es ys : List (List D)} {st' : St} (hH : Has N S st H) (hj : H[j]? = some (.lst x s es)) (hy : Rows st s y ys) {t1 t2 e : TypeId} {td : TypeDesc} {inf : TypeInfo} {z : List D}
    (h1 : P.und t1 = some (.slice e)) (h2 : P.und t2 = some td) (h3 : isIntT td = false) (h4 : P.info e = some inf) (h5 : zeroC P e = some z)
    (q1 : builtinD P .append [t1, t2] [x, y] st = some (x', st')) : ∀ k, x'.ref = k + 1 → x.ref = k + 1 ∨ S.bs.length ≤ k := by
  have hl := hH.ex.len
  have hrow := hy.row
  have hyl : ∀ e ∈ ys, e.length = s := fun e he => by
    obtain ⟨i, hi⟩ := List.getElem?_of_mem he
    exact hy.elen i e hi
  have hown := hH.own hj
  simp only [builtinD, appendD, h1, h2, h3, Bool.false_eq_true, if_false, h4, h5, hrow, Option.bind_some] at q1
  split at q1
  · cases q1
  · cases hown with
    | nul =>
      simp only at q1
      split at q1
      · cases q1; exact fun k hk => .inl hk
      · split at q1
        · cases q1
          exact fun k hk => .inr (by simp only [D.ref] at hk; omega)
        · cases q1
    | win k ver off es c hm hl hc he =>
      simp only [St.mem_of hm] at q1
      split at q1
      · cases q1
      · split at q1
        · cases q1; exact fun k hk => .inl hk
        · split at q1
          · cases q1
            exact fun n hn => .inl (by simp only [D.ref] at hn ⊢; exact hn)
          · cases q1

theorem EvO.happend5 {P : Pv} {ops : Array Oper} {rest : List Oper} {fr : Fr} {Q : Fr → St → Prop} {ty : TypeId} {pp : String} {a : Array Edge} {g : Option (Nat × Bool)} {dst : Nat} {j : Nat} {x y : D} {s : Nat} {es ys : List (List D)} {t1 t2 e : TypeId} {td : TypeDesc} {inf : TypeInfo} {z : List D} {xo yo : Operand} {fr' : D → Fr} (hH : Has N S st H) (hg : wantD ops fr ⟨some dst, .call ⟨.builtin .append, #[xo, yo], #[t1, t2]⟩, ty, pp, a, g⟩ = some true)
    (hx : fr.ev xo = x) (hy : fr.ev yo = y) (hj : H[j]? = some (.lst x s es)) (hys : Rows st s y ys)
    (h1 : P.und t1 = some (.slice e)) (h2 : P.und t2 = some td) (h3 : isIntT td = false) (h4 : P.info e = some inf) (h5 : zeroC P e = some z) (h6 : inf.size = s) (h7 : z.length = s) (h8 : 0 < inf.bytes ∧ inf.bytes ≤ 1024)
    (hp : ∀ x', fr.put dst x' = fr' x') (hb : es.length + ys.length ≤ 1073741824) (hw : S.flr ≤ N ∨ refs ys.flatten = 0) (h0 : ∀ k, x.ref = k + 1 → S.bs.length ≤ k)
    (h : ∀ x' st', (∀ k, x'.ref = k + 1 → S.bs.length ≤ k) → Has N S st' (H.set j (.lst x' s (es ++ ys))) → EvO P ops rest (fr' x') st' Q) :
    EvO P ops (⟨some dst, .call ⟨.builtin .append, #[xo, yo], #[t1, t2]⟩, ty, pp, a, g⟩ :: rest) fr st Q := by
  obtain ⟨x', st', q1, q2, q3⟩ := hH.append hj hys h1 h2 h3 h4 h5 h6 h7 h8 hb hw
  have h5' := hH.append5 hj hys h1 h2 h3 h4 h5 q1
  refine EvO.go hg rfl (d := x') (st1 := st') ?_ (hp _) (h x' st' (fun k hk => ?_) q2)
  · simp only [opD, List.map_cons, List.map_nil, hx, hy]
    exact q1
  · rcases h5' k hk with h | h
    · exact h0 k h
    · exact h

/-- what a cell is told as -/
def frzC : D → D
  | .nul => .sl []
  | d => d
def tellC (d : D) : Bool := match d with | .nul => true | d => plainC d

theorem tell_pure {st : St} {N n : Nat} {d : D} (h : tellC d = true) : pureD st N (n + 1) d = some (frzC d) := by
  cases d <;> simp [tellC, plainC] at h <;> rfl

theorem mapO_tell {st : St} {N n : Nat} : ∀ {l : List D}, (∀ d ∈ l, tellC d = true) → mapO (pureD st N (n + 1)) l = some (l.map frzC)
  | [], _ => rfl
  | d :: l, h => by simp only [mapO, tell_pure (h d (List.mem_cons_self ..)), mapO_tell (fun d hd => h d (List.mem_cons_of_mem _ hd)), List.map_cons]

theorem Has.freezeT {L j : Nat} {x : D} {s : Nat} {es : List (List D)} (hH : Has N S st H) (hj : H[j]? = some (.lst x s es)) (hx : ∀ k, x.ref = k + 1 → L ≤ k) (hp : ∀ e ∈ es, ∀ d ∈ e, tellC d = true) {n : Nat} (hn : 3 ≤ n) : freezeD st L false n x = some (.sl ((es.map (·.map frzC)).map (elD s))) := by
  obtain ⟨n, rfl⟩ : ∃ m, n = m + 3 := ⟨n - 3, by omega⟩
  have hown := hH.own hj
  cases hown with
  | nul => rfl
  | win k ver off es c hm hl hc he =>
    have hk := hx k (by simp only [D.ref])
    show (if k < L then some (D.win k ver off es.length s) else pureD st L (n + 2) (.win k ver off es.length s)) = _
    rw [if_neg (show ¬ k < L by omega), pureD]
    simp only [if_neg (show ¬ k < L by omega), St.mem_of hm, Option.bind_some]
    rw [if_pos hl, hc, mapO_tell (fun d hd => by
      obtain ⟨e, he', hd'⟩ := List.mem_flatten.1 hd
      exact hp e he' d hd')]
    have h1 : (es.map (·.map frzC)).flatten = es.flatten.map frzC := by rw [List.map_flatten]
    have h2 : (es.map (·.map frzC)).length = es.length := List.length_map _
    have h3 : ∀ e ∈ es.map (·.map frzC), e.length = s := by
      intro e he'
      obtain ⟨e0, h0, rfl⟩ := List.mem_map.1 he'
      rw [List.length_map]; exact he e0 h0
    simp only [Option.map_some]
    rw [← h1, ← h2, chunk_flat h3]

/-- a byte of a text; a part of a text -/
theorem EvO.sidx {P : Pv} {ops : Array Oper} {rest : List Oper} {fr fr' : Fr} {Q : Fr → St → Prop} {ty : TypeId} {pp : String} {a : Array Edge} {g : Option (Nat × Bool)} {dst : Nat} {t : TypeId} {xo io : Operand} {b : List UInt8} {kk : IntKind} {i : Nat} {c : UInt8} (hg : wantD ops fr ⟨some dst, .index t xo io, ty, pp, a, g⟩ = some true) (hx : fr.ev xo = .str b) (hi : fr.ev io = .int kk (i : Nat)) (ht : P.und t = some .string) (hc : b[i]? = some c) (hp : fr.put dst (.int .u8 (c.toNat : Nat)) = fr')
    (h : EvO P ops rest fr' st Q) : EvO P ops (⟨some dst, .index t xo io, ty, pp, a, g⟩ :: rest) fr st Q := by
  refine EvO.go hg rfl (d := .int .u8 (c.toNat : Nat)) (st1 := st) ?_ hp h
  simp only [opD, hx, hi, indexD, ht]
  rw [if_pos (by omega), Int.toNat_natCast, hc]; rfl
theorem EvO.sslice {P : Pv} {ops : Array Oper} {rest : List Oper} {fr fr' : Fr} {Q : Fr → St → Prop} {ty : TypeId} {pp : String} {a : Array Edge} {g : Option (Nat × Bool)} {dst : Nat} {t : TypeId} {xo : Operand} {lo hi : Option Operand} {b : List UInt8} {l r : Nat} (hg : wantD ops fr ⟨some dst, .slice t xo lo hi none, ty, pp, a, g⟩ = some true) (hx : fr.ev xo = .str b) (ht : P.und t = some .string) (hb : boundsD b.length (lo.map fr.ev) (hi.map fr.ev) = some (l, r)) (hp : fr.put dst (.str ((b.take r).drop l)) = fr')
    (h : EvO P ops rest fr' st Q) : EvO P ops (⟨some dst, .slice t xo lo hi none, ty, pp, a, g⟩ :: rest) fr st Q := by
  refine EvO.go hg rfl (d := .str ((b.take r).drop l)) (st1 := st) ?_ hp h
  simp only [opD, hx, sliceD, ht, hb, Option.map_some]
end Go.V
