/-
  What a step of V does to the boxes, and the model's to its heap.
-/
import Derived.Test.YteaeandommcdcaaGreatVg
namespace Go.V
set_option linter.unusedSimpArgs false
set_option linter.unusedVariables false
set_option linter.unusedSectionVars false
set_option linter.unnecessarySimpa false
open Go.RowKit

structure Nx (w : World) (st : St) (β : Nat → Option (Nat × Nat)) (Z : Nat → Prop) (w' : World) (st' : St) (β' : Nat → Option (Nat × Nat)) (Z' : Nat → Prop) : Prop where
  sim : Sim w' st' β' Z'
  keeps : Keeps w (st.x β Z) w' (st'.x β' Z')
  evo : Evo (wrt st β) w w'
  fresh : ∀ k b base, β' k = some (b, base) → (∃ base', β k = some (b, base')) ∨ w.heap.size ≤ b
  zfresh : ∀ b, Z' b → Z b ∨ w.heap.size ≤ b
  len : st.bs.length ≤ st'.bs.length
  flr : st'.flr = st.flr
  ro : st'.ro = st.ro
  low : ∀ k, k < st.ro → st'.bs[k]? = st.bs[k]? ∧ β' k = β k
  old : ∀ k, k < st.bs.length → β k = none → β' k = none ∧ st'.bs[k]? = st.bs[k]?

theorem BoxOk.keep {w w' : World} {x x' : X} {b base : Nat} {bx : Box} (h : BoxOk w x b base bx) (hk : Keeps w x w' x') (hb : w'.heap[b]? = w.heap[b]?) : BoxOk w' x' b base bx := by
  cases bx with
  | mem v a cells =>
    obtain ⟨c, el, fr, h1, h2, h3, h4⟩ := h
    refine ⟨c, el, fr, hb.trans h1, h2, h3, fun j d hd => ?_⟩
    obtain ⟨u, hu1, hu2, hu3⟩ := h4 j d hd
    exact ⟨u, hu1, hu2, hu3.mono hk⟩
  | iter s pos => exact ⟨h.1, hb.trans h.2⟩
  | map es =>
    obtain ⟨h0, en, cl, h1, h2⟩ := h
    exact ⟨h0, en, cl, hb.trans h1, h2⟩
  | dead => exact h

theorem Nx.same {w : World} {st : St} {β : Nat → Option (Nat × Nat)} {Z : Nat → Prop} (h : Sim w st β Z) : Nx w st β Z w st β Z :=
  ⟨h, Keeps.refl _ _, Evo.refl _ _, fun _ _ base hb => .inl ⟨base, hb⟩, fun _ hz => .inl hz, Nat.le_refl _, rfl, rfl, fun _ _ => ⟨rfl, rfl⟩, fun _ _ h => ⟨h, rfl⟩⟩

theorem Nx.trans {w1 w2 w3 : World} {st1 st2 st3 : St} {β1 β2 β3 : Nat → Option (Nat × Nat)} {Z1 Z2 Z3 : Nat → Prop} (h : Nx w1 st1 β1 Z1 w2 st2 β2 Z2) (g : Nx w2 st2 β2 Z2 w3 st3 β3 Z3) :
    Nx w1 st1 β1 Z1 w3 st3 β3 Z3 where
  sim := g.sim
  keeps := h.keeps.trans g.keeps
  evo := by
    refine h.evo.trans g.evo (fun _ hm => hm) fun b hb hm => ?_
    obtain ⟨k, base, hk, hro⟩ := hm
    rcases h.fresh k b base hk with ⟨base', hb'⟩ | hlt
    · exact ⟨k, base', hb', by rw [← h.ro]; exact hro⟩
    · omega
  fresh k b base hb := by
    rcases g.fresh k b base hb with ⟨base', hb'⟩ | hlt
    · exact h.fresh k b base' hb'
    · exact .inr (Nat.le_trans h.evo.size hlt)
  zfresh b hz := by
    rcases g.zfresh b hz with hz | hlt
    · exact h.zfresh b hz
    · exact .inr (Nat.le_trans h.evo.size hlt)
  len := Nat.le_trans h.len g.len
  flr := g.flr.trans h.flr
  ro := g.ro.trans h.ro
  low k hk := by
    obtain ⟨h1, h2⟩ := h.low k hk
    obtain ⟨g1, g2⟩ := g.low k (by rw [h.ro]; exact hk)
    exact ⟨g1.trans h1, g2.trans h2⟩
  old k hk h0 := by
    obtain ⟨h1, h2⟩ := h.old k hk h0
    obtain ⟨g1, g2⟩ := g.old k (Nat.lt_of_lt_of_le hk h.len) h1
    exact ⟨g1, g2.trans h2⟩

/-- only the tape was asked -/
theorem Nx.still {w w' : World} {st : St} {β : Nat → Option (Nat × Nat)} {Z : Nat → Prop} (h : Sim w st β Z) (hh : w'.heap = w.heap) (ho : w'.os = w.os) (ht : w'.tape = w.tape) (hp : w'.output = w.output) :
    Nx w st β Z w' st β Z := by
  have hk : Keeps w (st.x β Z) w' (st.x β Z) :=
    ⟨fun _ p hp => ⟨p, hp⟩, fun b hb => ⟨hb, by rw [hh]⟩, fun _ c _ _ hc => ⟨c, hc, Nat.le_refl _⟩, fun _ _ _ _ _ _ hb => ⟨hb, by simp [rowSize, hh]⟩⟩
  refine ⟨⟨h.dom, fun k b base hb => by rw [hh]; exact h.lt k b base hb, h.inj, h.zd, fun b hb => by rw [hh]; exact h.zl b hb, ?_, h.flr, h.ro⟩, hk, ⟨ho, ht, hp, by rw [hh]; exact Nat.le_refl _, fun b _ _ => by rw [hh]⟩,
    fun _ _ base hb => .inl ⟨base, hb⟩, fun _ hz => .inl hz, Nat.le_refl _, rfl, rfl, fun _ _ => ⟨rfl, rfl⟩, fun _ _ h => ⟨h, rfl⟩⟩
  intro k b base bx hb hbx
  exact (h.box k b base bx hb hbx).keep hk (by rw [hh])

def bpush (β : Nat → Option (Nat × Nat)) (n b : Nat) : Nat → Option (Nat × Nat) := fun k => if k = n then some (b, 0) else β k

theorem ver_push (st : St) (bx : Box) (k : Nat) (hk : k < st.bs.length) : (st.push bx).ver k = st.ver k := by
  simp [St.ver, St.push, List.getElem?_append_left hk]

theorem rowSize_eq {w w' : World} {b : Nat} (h : w'.heap[b]? = w.heap[b]?) : rowSize w' b = rowSize w b := by simp [rowSize, h]

theorem Nx.push {w w' : World} {st : St} {β : Nat → Option (Nat × Nat)} {Z : Nat → Prop} (h : Sim w st β Z) (o : Obj) (hh : w'.heap = w.heap.push o) (ho : w'.os = w.os) (ht : w'.tape = w.tape) (hp : w'.output = w.output) (bx : Box)
    (hb : Keeps w (st.x β Z) w' ((st.push bx).x (bpush β st.bs.length w.heap.size) Z) → BoxOk w' ((st.push bx).x (bpush β st.bs.length w.heap.size) Z) w.heap.size 0 bx) :
    Nx w st β Z w' (st.push bx) (bpush β st.bs.length w.heap.size) Z := by
  have hold : ∀ b, b < w.heap.size → w'.heap[b]? = w.heap[b]? := by
    intro b hb
    rw [hh, Array.getElem?_push, if_neg (by omega)]
  have hk : Keeps w (st.x β Z) w' ((st.push bx).x (bpush β st.bs.length w.heap.size) Z) := by
    have hdm : ∀ k p, β k = some p → k < st.bs.length := fun k p hp => h.dom k p.1 p.2 hp
    refine ⟨fun k p hp => ⟨p, ?_⟩, fun b hb => ⟨hb, hold b (h.zl b hb)⟩, fun k c p hk hc => ?_, fun k c hc hc' b base hb => ?_⟩
    · have := hdm k p hp
      simp only [St.x, bpush] at hp ⊢
      rw [if_neg (by omega)]; exact hp
    · refine ⟨c, ?_, Nat.le_refl _⟩
      have := ver_push st bx k (hdm k p hk)
      show st.ver k = some c
      rw [← this]; exact hc
    · refine ⟨?_, rowSize_eq (hold b (h.lt k b base hb))⟩
      have hk' : k < st.bs.length := hdm k _ hb
      simp only [St.x, bpush]
      rw [if_neg (by omega)]; exact hb
  have hsz : w'.heap.size = w.heap.size + 1 := by rw [hh, Array.size_push]
  refine ⟨⟨?_, ?_, ?_, ?_, ?_, ?_, ?_, ?_⟩, hk, ⟨ho, ht, hp, by omega, fun b hb _ => hold b hb⟩, ?_, fun _ hz => .inl hz, by simp [St.push], rfl, rfl, ?_, fun k hk h0 => by simp only [bpush, St.push]; rw [if_neg (by omega), List.getElem?_append_left hk]; exact ⟨h0, rfl⟩⟩
  · intro k b base hkb
    simp only [bpush] at hkb
    simp only [St.push, List.length_append, List.length_singleton]
    split at hkb
    · omega
    · have := h.dom k b base hkb; omega
  · intro k b base hkb
    simp only [bpush] at hkb
    split at hkb
    · cases hkb; omega
    · have := h.lt k b base hkb; omega
  · intro k k' b y y' h1 h2
    simp only [bpush] at h1 h2
    split at h1 <;> split at h2
    · omega
    · cases h1; have := h.lt k' _ _ h2; omega
    · cases h2; have := h.lt k _ _ h1; omega
    · exact h.inj k k' b y y' h1 h2
  · intro k b base hkb hz
    simp only [bpush] at hkb
    split at hkb
    · cases hkb; have := h.zl _ hz; omega
    · exact h.zd k b base hkb hz
  · intro b hz; have := h.zl b hz; omega
  · intro k b base bx' hkb hbx
    simp only [bpush] at hkb
    split at hkb
    · rename_i hkn; subst hkn
      cases hkb
      simp [St.push] at hbx
      subst hbx
      exact hb hk
    · have hlt := h.dom k b base hkb
      simp only [St.push, List.getElem?_append_left hlt] at hbx
      exact (h.box k b base bx' hkb hbx).keep hk (hold b (h.lt k b base hkb))
  · have := h.flr; simp [St.push]; omega
  · have := h.ro; simp [St.push]; omega
  · intro k b base hkb
    simp only [bpush] at hkb
    split at hkb
    · cases hkb; exact .inr (Nat.le_refl _)
    · exact .inl ⟨base, hkb⟩
  · intro k hk'
    have := h.ro
    simp only [St.push, bpush]
    rw [List.getElem?_append_left (by omega), if_neg (by omega)]
    exact ⟨rfl, rfl⟩

/-- a new row of cells -/
theorem Nx.push_mem {w w' : World} {st : St} {β : Nat → Option (Nat × Nat)} {Z : Nat → Prop} (h : Sim w st β Z) (arr : Bool) (cs : List D) (c : Array Value) (el : TypeId) (fr : Nat × Nat)
    (hh : w'.heap = w.heap.push (.cells c el fr)) (ho : w'.os = w.os) (ht : w'.tape = w.tape) (hp : w'.output = w.output) (hl : cs.length ≤ c.size) (hfr : FrOk c.size fr)
    (hc : ∀ (j : Nat) d, cs[j]? = some d → ∃ u, c[j]? = some u ∧ u.oneCell' = true ∧ VR w (st.x β Z) d u) :
    Nx w st β Z w' (st.push (.mem 0 arr cs)) (bpush β st.bs.length w.heap.size) Z ∧
      rowSize w' w.heap.size = some c.size ∧ (st.push (.mem 0 arr cs)).ver st.bs.length = some 0 ∧ bpush β st.bs.length w.heap.size st.bs.length = some (w.heap.size, 0) := by
  have hnew : w'.heap[w.heap.size]? = some (.cells c el fr) := by rw [hh]; simp
  refine ⟨Nx.push h _ hh ho ht hp _ fun hk => ⟨c, el, fr, hnew, by omega, hfr, fun j d hd => ?_⟩, by simp [rowSize, hnew], by simp [St.ver, St.push, boxVer], by simp [bpush]⟩
  obtain ⟨u, h1, h2, h3⟩ := hc j d hd
  exact ⟨u, by rw [Nat.zero_add]; exact h1, h2, h3.mono hk⟩

theorem mem_spec {st : St} {k ver : Nat} {a : Bool} {c : List D} (h : st.mem? k ver = some (a, c)) : st.bs[k]? = some (.mem ver a c) ∧ st.ver k = some ver := by
  unfold St.mem? at h
  split at h
  · rename_i v a' c' hb
    split at h
    · rename_i hv; subst hv; cases h
      exact ⟨hb, by simp [St.ver, hb, boxVer]⟩
    · cases h
  · cases h

theorem Sim.row {w : World} {st : St} {β : Nat → Option (Nat × Nat)} {Z : Nat → Prop} (h : Sim w st β Z) {k ver : Nat} {a : Bool} {c : List D} (hm : st.mem? k ver = some (a, c)) {b base : Nat} (hb : β k = some (b, base)) :
    ∃ cs el fr, w.heap[b]? = some (.cells cs el fr) ∧ base + c.length ≤ cs.size ∧ FrOk cs.size fr ∧
      ∀ (j : Nat) d, c[j]? = some d → ∃ u, cs[base + j]? = some u ∧ u.oneCell' = true ∧ VR w (st.x β Z) d u :=
  h.box k b base _ hb (mem_spec hm).1

theorem Sim.cells {w : World} {st : St} {β : Nat → Option (Nat × Nat)} {Z : Nat → Prop} (h : Sim w st β Z) {k ver : Nat} {a : Bool} {c : List D} (hm : st.mem? k ver = some (a, c)) {b base : Nat} (hb : β k = some (b, base)) :
    CellsAt w (st.x β Z) b base c := by
  obtain ⟨cs, el, fr, h1, h2, h3, h4⟩ := h.row hm hb
  intro j d hd
  obtain ⟨u, hu1, hu2, hu3⟩ := h4 j d hd
  exact ⟨u, by simp [World.cell?, h1, hu1], hu2, hu3⟩

theorem setMany_length : ∀ (cs c : List D) (off : Nat), (setMany c off cs).length = c.length
  | [], c, off => rfl
  | x :: xs, c, off => by simp only [setMany]; rw [setMany_length xs]; simp

theorem setMany_get : ∀ (cs c : List D) (off j : Nat), off + cs.length ≤ c.length → (setMany c off cs)[j]? = if off ≤ j ∧ j < off + cs.length then cs[j - off]? else c[j]?
  | [], c, off, j, _ => by simp only [setMany, List.length_nil, Nat.add_zero]; rw [if_neg (by omega)]
  | x :: xs, c, off, j, h => by
    simp only [List.length_cons] at h
    simp only [setMany, List.length_cons]
    rw [setMany_get xs (c.set off x) (off + 1) j (by simp; omega)]
    by_cases h1 : off + 1 ≤ j ∧ j < off + 1 + xs.length
    · rw [if_pos h1, if_pos (by omega), show j - off = (j - (off + 1)) + 1 by omega, List.getElem?_cons_succ]
    · rw [if_neg h1]
      by_cases h2 : j = off
      · subst h2; rw [if_pos (by omega), Nat.sub_self, List.getElem?_set_self (by omega)]; rfl
      · rw [if_neg (by omega), List.getElem?_set_ne (by omega)]

/-- a cell of the model's heap, written over -/
def wput (w : World) (b : Nat) (o : Obj) : World := { w with heap := w.heap.setIfInBounds b o }

/-- cells of a box are written over (arr, version and size stay or the version rises) -/
theorem Nx.writeF {w : World} {st : St} {β : Nat → Option (Nat × Nat)} {Z : Nat → Prop} (h : Sim w st β Z) {k ver ver' : Nat} {a a' : Bool} {c c' : List D} (hm : st.mem? k ver = some (a, c)) {b base base' : Nat} (hb : β k = some (b, base))
    (hro : st.ro ≤ k) (hv : ver ≤ ver') (hbase : ver = ver' → base' = base) {cs cs' : Array Value} {el : TypeId} {fr fr' : Nat × Nat} (hw : w.heap[b]? = some (.cells cs el fr)) (hfr : FrOk cs.size fr') (hsz : cs'.size = cs.size) (hl : base' + c'.length ≤ cs.size)
    (hc : ∀ (j : Nat) d, c'[j]? = some d → ∃ u, cs'[base' + j]? = some u ∧ u.oneCell' = true ∧ VR w (st.x β Z) d u) :
    Nx w st β Z (wput w b (.cells cs' el fr')) { st with bs := st.bs.set k (.mem ver' a' c') } (fun i => if i = k then some (b, base') else β i) Z := by
  obtain ⟨hbx, hver⟩ := mem_spec hm
  have hkl : k < st.bs.length := h.dom k b base hb
  have hbl : b < w.heap.size := h.lt k b base hb
  have hne : ∀ i, i ≠ b → (wput w b (.cells cs' el fr')).heap[i]? = w.heap[i]? := by
    intro i hi
    simp only [wput]
    rw [Array.getElem?_setIfInBounds_ne (by omega)]
  have heq : (wput w b (.cells cs' el fr')).heap[b]? = some (.cells cs' el fr') := by
    simp only [wput]
    rw [Array.getElem?_setIfInBounds_self_of_lt hbl]
  have hverk : ∀ i, i ≠ k → ({ st with bs := st.bs.set k (.mem ver' a' c') } : St).ver i = st.ver i := by
    intro i hi; simp only [St.ver]; rw [List.getElem?_set_ne (by omega)]
  have hverk' : ({ st with bs := st.bs.set k (.mem ver' a' c') } : St).ver k = some ver' := by
    simp [St.ver, hkl, boxVer]
  have hk : Keeps w (st.x β Z) (wput w b (.cells cs' el fr')) (({ st with bs := st.bs.set k (.mem ver' a' c') } : St).x (fun i => if i = k then some (b, base') else β i) Z) := by
    refine ⟨fun i p hp => ?_, fun i hi => ⟨hi, hne i fun e => h.zd k b base hb (e ▸ hi)⟩, fun i q p hi hq => ?_, fun i q hq hq' i' y hy => ?_⟩
    · by_cases hik : i = k
      · subst hik; exact ⟨(b, base'), by simp [St.x]⟩
      · exact ⟨p, by simp only [St.x] at hp ⊢; rw [if_neg hik]; exact hp⟩
    · by_cases hik : i = k
      · subst hik
        simp only [St.x] at hq ⊢
        rw [hverk'] at hq; cases hq
        exact ⟨ver, hver, hv⟩
      · simp only [St.x] at hq ⊢
        rw [hverk i hik] at hq
        exact ⟨q, hq, Nat.le_refl _⟩
    · by_cases hik : i = k
      · subst hik
        simp only [St.x] at hq hq' hy ⊢
        rw [hverk'] at hq; cases hq
        rw [hver] at hq'; cases hq'
        rw [hb] at hy; cases hy
        refine ⟨by simp [hbase rfl], by simp [rowSize, heq, hw, hsz]⟩
      · simp only [St.x] at hy ⊢
        refine ⟨by rw [if_neg hik]; exact hy, rowSize_eq (hne i' fun e => ?_)⟩
        subst e; exact hik (h.inj i k _ _ _ hy hb)
  refine ⟨⟨?_, ?_, ?_, ?_, ?_, ?_, ?_, ?_⟩, hk, ⟨rfl, rfl, rfl, by simp [wput], fun i hi hn => hne i fun e => hn ?_⟩, ?_, fun _ hz => .inl hz, by simp, rfl, rfl, ?_, fun i _ h0 => by
      by_cases e : i = k
      · subst e; rw [hb] at h0; cases h0
      · simp only [if_neg e]; rw [List.getElem?_set_ne (by omega)]; exact ⟨h0, rfl⟩⟩
  · intro i q y hq
    simp only [List.length_set]
    try dsimp only at hq
    split at hq
    · rename_i e; subst e; exact hkl
    · exact h.dom i q y hq
  · intro i q y hq
    simp only [wput, Array.size_setIfInBounds]
    try dsimp only at hq
    split at hq
    · cases hq; exact hbl
    · exact h.lt i q y hq
  · intro i i' q y y' h1 h2
    try dsimp only at h1 h2
    split at h1 <;> split at h2
    · omega
    · rename_i e _; cases h1; subst e; exact h.inj _ _ _ _ _ hb h2
    · rename_i _ e; cases h2; subst e; exact h.inj _ _ _ _ _ h1 hb
    · exact h.inj i i' q y y' h1 h2
  · intro i q y hq hz
    try dsimp only at hq
    split at hq
    · cases hq; exact h.zd k b base hb hz
    · exact h.zd i q y hq hz
  · intro i hz; simp only [wput, Array.size_setIfInBounds]; exact h.zl i hz
  · intro i q y bx hq hbx'
    try dsimp only at hq hbx'
    split at hq
    · rename_i e; subst e; cases hq
      rw [List.getElem?_set_self hkl] at hbx'
      cases hbx'
      refine ⟨cs', el, fr', heq, by omega, by rw [hsz]; exact hfr, fun j d hd => ?_⟩
      · obtain ⟨u, hu1, hu2, hu3⟩ := hc j d hd
        exact ⟨u, hu1, hu2, hu3.mono hk⟩
    · rename_i e
      rw [List.getElem?_set_ne (by omega)] at hbx'
      refine (h.box i q y bx hq hbx').keep hk (hne q fun e' => ?_)
      subst e'; exact e (h.inj i k _ _ _ hq hb)
  · have := h.flr; simp; omega
  · have := h.ro; simp; omega
  · exact ⟨k, base, e ▸ hb, hro⟩
  · intro i q y hq
    try dsimp only at hq
    split at hq
    · rename_i e; subst e; cases hq; exact .inl ⟨base, hb⟩
    · exact .inl ⟨y, hq⟩
  · intro i hi
    dsimp only
    rw [List.getElem?_set_ne (by omega), if_neg (by omega)]
    exact ⟨rfl, rfl⟩

theorem Nx.write {w : World} {st : St} {β : Nat → Option (Nat × Nat)} {Z : Nat → Prop} (h : Sim w st β Z) {k ver ver' : Nat} {a a' : Bool} {c c' : List D} (hm : st.mem? k ver = some (a, c)) {b base base' : Nat} (hb : β k = some (b, base))
    (hro : st.ro ≤ k) (hv : ver ≤ ver') (hbase : ver = ver' → base' = base) {cs cs' : Array Value} {el : TypeId} {fr : Nat × Nat} (hw : w.heap[b]? = some (.cells cs el fr)) (hsz : cs'.size = cs.size) (hl : base' + c'.length ≤ cs.size)
    (hc : ∀ (j : Nat) d, c'[j]? = some d → ∃ u, cs'[base' + j]? = some u ∧ u.oneCell' = true ∧ VR w (st.x β Z) d u) :
    Nx w st β Z (wput w b (.cells cs' el fr)) { st with bs := st.bs.set k (.mem ver' a' c') } (fun i => if i = k then some (b, base') else β i) Z :=
  Nx.writeF h hm hb hro hv hbase hw (by
    obtain ⟨cs0, el0, fr0, e1, _, e3, _⟩ := h.row hm hb
    rw [hw] at e1; cases e1
    exact e3) hsz hl hc
end Go.V
