/-
  What a function tells is frozen; its own boxes are given up.
-/
import Derived.Test.YteaeandommcdcaaGreatVx
namespace Go.V
set_option linter.unusedSimpArgs false
set_option linter.unusedVariables false
set_option linter.unusedSectionVars false
set_option linter.unnecessarySimpa false
open Go.RowKit

def cutB (N : Nat) (β : Nat → Option (Nat × Nat)) : Nat → Option (Nat × Nat) := fun k => if k < N then β k else none
def giveZ (N : Nat) (β : Nat → Option (Nat × Nat)) (Z : Nat → Prop) : Nat → Prop := fun b => Z b ∨ ∃ k base, N ≤ k ∧ β k = some (b, base)

theorem VR.cut {w : World} {x x' : X} {N : Nat} (hβ : ∀ k, k < N → x'.β k = x.β k) (hv : ∀ k, k < N → x'.ver k = x.ver k) (hZ : ∀ b, x.Z b → x'.Z b) {d : D} {v : Value} (h : VR w x d v) : d.ref ≤ N → VR w x' d v := by
  induction h with
  | im d v h => intro _; exact .im d v (h.mono fun b hb => ⟨hZ b hb, rfl⟩)
  | win k vr off len s a cap hc hk hm h =>
    intro hr
    simp only [D.ref] at hr
    exact .win k vr off len s a cap hc (by rw [hβ k hr]; exact hk) (by rw [hv k hr]; exact hm) (by rw [hv k hr, hβ k hr]; exact h)
  | ptr k vr off a hk hm h =>
    intro hr
    simp only [D.ref] at hr
    exact .ptr k vr off a (by rw [hβ k hr]; exact hk) (by rw [hv k hr]; exact hm) (by rw [hv k hr, hβ k hr]; exact h)
  | mp k r hk h =>
    intro hr
    simp only [D.ref] at hr
    exact .mp k r (by rw [hβ k hr]; exact hk) (by rw [hv k hr, hβ k hr]; exact h)
  | fn f cs vs hl hr ih => intro hN; simp only [D.ref] at hN; exact .fn f cs vs hl fun i c v hc hv => ih i c v hc hv (Nat.le_trans (ref_le_refs (List.mem_of_getElem? hc)) hN)
  | agg cs vs hl h1 hr ih => intro hN; simp only [D.ref] at hN; exact .agg cs vs hl h1 fun i c v hc hv => ih i c v hc hv (Nat.le_trans (ref_le_refs (List.mem_of_getElem? hc)) hN)
  | tup cs vs hl hr ih => intro hN; simp only [D.ref] at hN; exact .tup cs vs hl fun i c v hc hv => ih i c v hc hv (Nat.le_trans (ref_le_refs (List.mem_of_getElem? hc)) hN)

theorem refs_all {N : Nat} {cs : List D} {vs : List Value} (hl : cs.length = vs.length) (h : ∀ (i : Nat) c v, cs[i]? = some c → vs[i]? = some v → c.ref ≤ N) : refs cs ≤ N := by
  refine refs_le fun d hd => ?_
  obtain ⟨i, hi⟩ := List.getElem?_of_mem hd
  have hlt := lt_of_some hi
  exact h i d _ hi (List.getElem?_eq_getElem (by omega))

theorem IR.ref {w : World} {Z : Nat → Prop} {d : D} {v : Value} (h : IR w Z d v) : d.ref ≤ 0 := by
  induction h with
  | agg cs vs hl h1 hr ih => simp only [D.ref]; exact refs_all hl ih
  | tup cs vs hl hr ih => simp only [D.ref]; exact refs_all hl ih
  | _ => simp [D.ref]

theorem VR.ref {w : World} {x : X} {N : Nat} (hd : ∀ k p, x.β k = some p → k < N) {d : D} {v : Value} (h : VR w x d v) : d.ref ≤ N := by
  induction h with
  | im d v h => exact Nat.le_trans h.ref (Nat.zero_le _)
  | win k vr off len s a cap hc hk hm h => obtain ⟨p, hp⟩ := hk; simp only [D.ref]; exact hd k p hp
  | ptr k vr off a hk hm h => obtain ⟨p, hp⟩ := hk; simp only [D.ref]; exact hd k p hp
  | mp k r hk h => obtain ⟨p, hp⟩ := hk; simp only [D.ref]; exact hd k p hp
  | fn f cs vs hl hr ih => simp only [D.ref]; exact refs_all hl ih
  | agg cs vs hl h1 hr ih => simp only [D.ref]; exact refs_all hl ih
  | tup cs vs hl hr ih => simp only [D.ref]; exact refs_all hl ih

theorem mapO_get {f : D → Option D} : ∀ {ds xs : List D}, mapO f ds = some xs → xs.length = ds.length ∧ ∀ (i : Nat) x, xs[i]? = some x → ∃ d, ds[i]? = some d ∧ f d = some x
  | [], xs, h => by simp only [mapO] at h; cases h; exact ⟨rfl, fun i x hx => by simp at hx⟩
  | d :: ds, xs, h => by
    simp only [mapO] at h
    split at h
    · rename_i y hy
      split at h
      · rename_i ys hys
        cases h
        obtain ⟨h1, h2⟩ := mapO_get hys
        refine ⟨by simp [h1], fun i x hx => ?_⟩
        cases i with
        | zero => simp at hx; subst hx; exact ⟨d, rfl, hy⟩
        | succ i => simpa using h2 i x (by simpa using hx)
      · cases h
    · cases h

theorem chunk_len (s : Nat) : ∀ (n : Nat) (c : List D), (chunk s n c).length = n
  | 0, _ => rfl
  | n + 1, c => by simp only [chunk, List.length_cons, chunk_len s n]

theorem chunk_get (s : Nat) : ∀ (n : Nat) (c : List D) (i : Nat) (e : D), n * s ≤ c.length → (∀ x ∈ c, x.cells? = some [x] ∧ x.cells = [x]) → (chunk s n c)[i]? = some e →
    e.cells? = some e.cells ∧ e.cells.length = s ∧ ∀ (j : Nat) y, e.cells[j]? = some y → c[i * s + j]? = some y
  | 0, _, i, e, _, _, h => by simp [chunk] at h
  | n + 1, c, i + 1, e, hl, h1, h => by
    simp only [chunk, List.getElem?_cons_succ] at h
    have hs : n * s + s ≤ c.length := by rw [Nat.succ_mul] at hl; exact hl
    obtain ⟨q1, q2, q3⟩ := chunk_get s n (c.drop s) i e (by simp; omega) (fun x hx => h1 x (List.mem_of_mem_drop hx)) h
    refine ⟨q1, q2, fun j y hy => ?_⟩
    have := q3 j y hy
    rw [List.getElem?_drop] at this
    rw [Nat.succ_mul, ← this]; congr 1; omega
  | n + 1, c, 0, e, hl, h1, h => by
    have hs : s ≤ c.length := by rw [Nat.succ_mul] at hl; omega
    simp only [chunk, List.getElem?_cons_zero, Option.some.injEq] at h
    split at h
    · cases c with
      | nil => simp at hs
      | cons x c =>
        simp only [List.headD_cons] at h
        subst h
        obtain ⟨q1, q2⟩ := h1 x (List.mem_cons_self ..)
        refine ⟨by rw [q1, q2], by rw [q2]; rfl, fun j y hy => ?_⟩
        rw [q2] at hy
        cases j with
        | zero => simpa using hy
        | succ j => simp at hy
    · subst h
      refine ⟨rfl, by simp [D.cells]; omega, fun j y hy => ?_⟩
      simp only [D.cells] at hy
      rw [List.getElem?_take] at hy
      split at hy
      · simpa using hy
      · cases hy

theorem pure_shape {st : St} {N n : Nat} {d x : D} (h : pureD st N n d = some x) : (∃ cs, x = .agg cs) ∨ (x.cells? = some [x] ∧ x.cells = [x]) := by
  cases n with
  | zero => cases h
  | succ n =>
    cases d <;> simp only [pureD] at h <;> first | (cases h; done) | (cases h; exact .inr ⟨rfl, rfl⟩) | skip
    case win k ver off len sz =>
      split at h
      · cases h
      · obtain ⟨⟨a, c⟩, _, h⟩ := Option.bind_eq_some_iff.1 h
        dsimp only at h
        split at h
        · obtain ⟨r, _, hr⟩ := Option.map_eq_some_iff.1 h
          cases hr; exact .inr ⟨rfl, rfl⟩
        · cases h
    case agg cs =>
      obtain ⟨r, _, hr⟩ := Option.map_eq_some_iff.1 h
      cases hr; exact .inl ⟨_, rfl⟩

theorem pure_ok {w : World} {st : St} {β : Nat → Option (Nat × Nat)} {Z : Nat → Prop} (h : Sim w st β Z) (N : Nat) : ∀ (n : Nat) {d d' : D} {v : Value}, pureD st N n d = some d' → VR w (st.x β Z) d v → IR w (giveZ N β Z) d' v := by
  have up : ∀ {d : D} {v : Value}, IR w Z d v → IR w (giveZ N β Z) d v := fun hi => hi.mono fun b hb => ⟨.inl hb, rfl⟩
  intro n
  induction n with
  | zero => intro d d' v hp; cases hp
  | succ n ih =>
    intro d d' v hp hv
    cases d <;> simp only [pureD] at hp <;> try (cases hp; done)
    case bool b => cases hp; rw [vr_bool hv]; exact .bool b
    case int k i => cases hp; rw [vr_int hv]; exact .int k i
    case str s => cases hp; rw [vr_str hv]; exact .str s
    case nul => cases hp; rw [vr_nul hv]; exact .emp none 0
    case sl es => cases hp; cases hv with | im _ _ hi => exact up hi
    case pnil => cases hp; rw [vr_pnil hv]; exact .pnil
    case nilfn => cases hp; cases hv with | im _ _ hi => exact up hi
    case nilif => cases hp; cases hv with | im _ _ hi => exact up hi
    case agg cs =>
      obtain ⟨xs, hx, hr⟩ := Option.map_eq_some_iff.1 hp
      cases hr
      obtain ⟨vs, rfl, hl, h1, h2⟩ := vr_agg hv
      obtain ⟨g1, g2⟩ := mapO_get hx
      refine .agg xs vs (g1.trans hl) h1 fun i c u hc hu => ?_
      obtain ⟨d, hd1, hd2⟩ := g2 i c hc
      exact ih hd2 (h2 i d u hd1 hu)
    case win k ver off len s =>
      split at hp
      · cases hp
      · rename_i hkN
        obtain ⟨⟨ar, c⟩, hm, hp⟩ := Option.bind_eq_some_iff.1 hp
        dsimp only at hp
        split at hp
        · rename_i hroom
          obtain ⟨xs, hx, hr⟩ := Option.map_eq_some_iff.1 hp
          cases hr
          obtain ⟨a, cap, rfl, hlc, _, _, hat⟩ := vr_win hv
          obtain ⟨b, base, sz, hb, _, hcap⟩ := hat (mem_spec hm).2
          have hcells : CellsAt w (st.x β Z) b (base + off) ((c.drop off).take (len * s)) := ((h.cells hm hb).drop off).take _
          obtain ⟨g1, g2⟩ := mapO_get hx
          have hlen : xs.length = len * s := by rw [g1]; simp; omega
          have hcell : ∀ (j : Nat) y, xs[j]? = some y → ∃ u, w.cell? ⟨b, base + off + j, none⟩ = some u ∧ u.oneCell' = true ∧ IR w (giveZ N β Z) y u := by
            intro j y hy
            obtain ⟨d, hd1, hd2⟩ := g2 j y hy
            obtain ⟨u, hu1, hu2, hu3⟩ := hcells j d hd1
            exact ⟨u, hu1, hu2, ih hd2 hu3⟩
          have hone : ∀ x ∈ xs, x.cells? = some [x] ∧ x.cells = [x] := by
            intro x hxm
            obtain ⟨j, hj⟩ := List.getElem?_of_mem hxm
            obtain ⟨d, _, hd2⟩ := g2 j x hj
            obtain ⟨u, _, hu2, hu3⟩ := hcell j x hj
            rcases pure_shape hd2 with ⟨cs, rfl⟩ | h'
            · cases hu3; simp [Value.oneCell'] at hu2
            · exact h'
          rcases hcap with rfl | ⟨rfl, _⟩
          · have : len = 0 := by omega
            subst this
            exact .emp (some a) 0
          · have hcl := chunk_len s len xs
            have hg := fun i e => chunk_get s len xs i e (by omega) hone
            have key : ∀ (i : Nat) e (j : Nat) y, (chunk s len xs)[i]? = some e → e.cells[j]? = some y → ∃ u, w.cell? ⟨b, base + off + (i * s + j), none⟩ = some u ∧ u.oneCell' = true ∧ IR w (giveZ N β Z) y u := fun i e j y he hy => hcell _ y ((hg i e he).2.2 j y hy)
            have := IR.sl (w := w) (Z := giveZ N β Z) (chunk s len xs) b (base + off) cap s (fun i j => (w.cell? ⟨b, base + off + (i * s + j), none⟩).getD undef) (.inr ⟨k, base, by omega, hb⟩) (by omega)
              (fun i e he => ⟨(hg i e he).1, (hg i e he).2.1⟩)
              (fun i e j y he hy => by obtain ⟨u, hu1, hu2, _⟩ := key i e j y he hy; rw [hu1]; exact ⟨rfl, hu2⟩)
              (fun i e j y he hy => by obtain ⟨u, hu1, _, hu3⟩ := key i e j y he hy; rw [hu1]; exact hu3)
            rw [hcl] at this
            exact this
        · cases hp

theorem freeze_ok {w : World} {st : St} {β : Nat → Option (Nat × Nat)} {Z : Nat → Prop} (h : Sim w st β Z) {N : Nat} {x' : X} (hβ : ∀ k, k < N → x'.β k = β k) (hv' : ∀ k, k < N → x'.ver k = st.ver k) (hZ : x'.Z = giveZ N β Z) (kn : Bool) :
    ∀ (n : Nat) {d d' : D} {v : Value}, freezeD st N kn n d = some d' → VR w (st.x β Z) d v → VR w x' d' v := by
  have cut : ∀ {d : D} {v : Value}, VR w (st.x β Z) d v → d.ref ≤ N → VR w x' d v := fun hv hr => hv.cut hβ hv' (fun b hb => by rw [hZ]; exact .inl hb) hr
  have im : ∀ {d : D} {v : Value}, IR w (giveZ N β Z) d v → VR w x' d v := fun hi => .im _ _ (by rw [hZ]; exact hi)
  intro n
  induction n with
  | zero => intro d d' v hp; cases hp
  | succ n ih =>
    intro d d' v hp hv
    cases d <;> simp only [freezeD] at hp <;> first | (cases hp; exact cut hv (by simp [D.ref])) | skip
    case nul =>
      cases hp
      cases kn with
      | true => exact cut hv (by simp [D.ref])
      | false => rw [vr_nul hv]; exact im (.emp none 0)
    case win k ver off len s =>
      split at hp
      · rename_i hk; cases hp; exact cut hv (by simp only [D.ref]; omega)
      · exact im (pure_ok h N n hp hv)
    case ptr k ver off =>
      split at hp
      · rename_i hk; cases hp; exact cut hv (by simp only [D.ref]; omega)
      · cases hp
    case mp k =>
      split at hp
      · rename_i hk; cases hp; exact cut hv (by simp only [D.ref]; omega)
      · cases hp
    case fn f caps =>
      split at hp
      · rename_i hk; cases hp; exact cut hv (by simp only [D.ref]; exact hk)
      · cases hp
    case agg cs =>
      obtain ⟨xs, hx, hr⟩ := Option.map_eq_some_iff.1 hp
      cases hr
      obtain ⟨vs, rfl, hl, h1, h2⟩ := vr_agg hv
      obtain ⟨g1, g2⟩ := mapO_get hx
      refine .agg xs vs (g1.trans hl) h1 fun i c u hc hu => ?_
      obtain ⟨d, hd1, hd2⟩ := g2 i c hc
      exact ih hd2 (h2 i d u hd1 hu)
    case tup cs =>
      obtain ⟨xs, hx, hr⟩ := Option.map_eq_some_iff.1 hp
      cases hr
      obtain ⟨vs, rfl, hl, h2⟩ := vr_tup hv
      obtain ⟨g1, g2⟩ := mapO_get hx
      refine .tup xs vs (g1.trans hl) fun i c u hc hu => ?_
      obtain ⟨d, hd1, hd2⟩ := g2 i c hc
      exact ih hd2 (h2 i d u hd1 hu)

theorem enter_ver (m : Mode) (st : St) : (enterSt m st).bs = st.bs := by cases m <;> rfl

theorem enter_sim {w : World} {st : St} {β : Nat → Option (Nat × Nat)} {Z : Nat → Prop} (h : Sim w st β Z) (m : Mode) : Sim w (enterSt m st) β Z := by
  refine ⟨fun k b base hk => by rw [enter_ver]; exact h.dom k b base hk, h.lt, h.inj, h.zd, h.zl, fun k b base bx hb hbx => ?_, ?_, ?_⟩
  · rw [enter_ver] at hbx
    have : (enterSt m st).x β Z = st.x β Z := by simp only [St.x]; congr 1; funext k; simp only [St.ver, enter_ver]
    rw [this]; exact h.box k b base bx hb hbx
  · rw [enter_ver]; cases m <;> first | exact Nat.le_refl _ | exact h.flr
  · rw [enter_ver]; cases m <;> first | exact Nat.le_refl _ | exact h.ro

theorem leave_ok {w w' : World} {st st1 st' : St} {β β' : Nat → Option (Nat × Nat)} {Z Z' : Nat → Prop} (h : Sim w st β Z) (m : Mode) (kn : Bool) (hn : Nx w (enterSt m st) β Z w' st1 β' Z') (hg : Goes (enterSt m st) st1) {d d' : D} {v : Value} (hv : VR w' (st1.x β' Z') d v)
    (hl : leaveD m kn st st1 d = some (d', st')) : ∃ β'' Z'', Nx w st β Z w' st' β'' Z'' ∧ VR w' (st'.x β'' Z'') d' v := by
  by_cases hm : m = .keep
  · subst hm
    simp only [leaveD] at hl; cases hl
    exact ⟨β', Z', hn, hv⟩
  by_cases hw : m = .nw
  · subst hw
    simp only [leaveD] at hl; cases hl
    have hx0 : (enterSt .nw st).x β Z = st.x β Z := by simp only [St.x]; congr 1
    have hx1 : (⟨st1.bs, st.flr, st.ro⟩ : St).x β' Z' = st1.x β' Z' := by simp only [St.x]; congr 1
    have hlen : st.bs.length ≤ st1.bs.length := hn.len
    refine ⟨β', Z', ⟨⟨hn.sim.dom, hn.sim.lt, hn.sim.inj, hn.sim.zd, hn.sim.zl, fun k b base bx hb hbx => by rw [hx1]; exact hn.sim.box k b base bx hb hbx, Nat.le_trans h.flr hlen, Nat.le_trans h.ro hlen⟩, by rw [hx1, ← hx0]; exact hn.keeps,
      hn.evo.mono fun b hb => ?_, hn.fresh, hn.zfresh, hlen, rfl, rfl, fun k hk => hn.low k (Nat.lt_of_lt_of_le hk h.ro), fun k hk h0 => hn.old k hk h0⟩, by rw [hx1]; exact hv⟩
    obtain ⟨k, base, h1, h2⟩ := hb
    exact ⟨k, base, h1, Nat.le_trans h.ro h2⟩
  have hl : ∃ dd, freezeD st1 st.bs.length kn 16 d = some dd ∧ d' = dd ∧ st' = ⟨st1.bs.take st.bs.length, st.flr, st.ro⟩ := by
    cases m <;> first | exact absurd rfl hm | exact absurd rfl hw | skip
    all_goals
      simp only [leaveD] at hl
      split at hl
      · rename_i dd hf; cases hl; exact ⟨_, hf, rfl, rfl⟩
      · cases hl
  obtain ⟨dd, hf, rfl, rfl⟩ := hl
  have hflr : (enterSt m st).flr = st.bs.length := by cases m <;> first | rfl | exact absurd rfl hm | exact absurd rfl hw
  have hro : st.ro ≤ (enterSt m st).ro := by cases m <;> first | exact Nat.le_refl _ | exact h.ro
  have hlen : st.bs.length ≤ st1.bs.length := by have := hn.len; rw [enter_ver] at this; exact this
  have hb : ∀ k, k < st.bs.length → (st1.bs.take st.bs.length)[k]? = st1.bs[k]? := fun k hk => by rw [List.getElem?_take, if_pos hk]
  have hx : (enterSt m st).x β Z = st.x β Z := by simp only [St.x]; congr 1; funext k; simp only [St.ver, enter_ver]
  have hv' : ∀ k, k < st.bs.length → (⟨st1.bs.take st.bs.length, st.flr, st.ro⟩ : St).ver k = st1.ver k := fun k hk => by simp only [St.ver, hb k hk]
  have hβ : ∀ k, k < st.bs.length → cutB st.bs.length β' k = β' k := fun k hk => by simp only [cutB, if_pos hk]
  have hβ2 : ∀ k p, cutB st.bs.length β' k = some p → k < st.bs.length ∧ β' k = some p := by
    intro k p hp
    simp only [cutB] at hp
    split at hp
    · exact ⟨by assumption, hp⟩
    · cases hp
  refine ⟨cutB st.bs.length β', giveZ st.bs.length β' Z', ⟨⟨fun k b base hk => ?_, fun k b base hk => hn.sim.lt k b base (hβ2 k _ hk).2, fun k k' b y y' h1 h2 => hn.sim.inj k k' b y y' (hβ2 k _ h1).2 (hβ2 k' _ h2).2, ?_, ?_, ?_, ?_, ?_⟩, ?_, ?_, ?_, ?_, ?_, rfl, rfl, ?_, ?_⟩, ?_⟩
  · have := (hβ2 k _ hk).1; simp; omega
  · intro k b base hk hz
    obtain ⟨h1, h2⟩ := hβ2 k _ hk
    rcases hz with hz | ⟨k2, base2, h3, h4⟩
    · exact hn.sim.zd k b base h2 hz
    · have := hn.sim.inj k k2 b _ _ h2 h4; omega
  · rintro b (hz | ⟨k2, base2, _, h4⟩)
    · exact hn.sim.zl b hz
    · exact hn.sim.lt k2 b base2 h4
  · intro k b base bx hk hbx
    obtain ⟨h1, h2⟩ := hβ2 k _ hk
    simp only at hbx
    rw [hb k h1] at hbx
    have hbox := hn.sim.box k b base bx h2 hbx
    have hβk : ∃ p, β k = some p := by
      cases hq : β k with
      | some p => exact ⟨p, rfl⟩
      | none =>
        have := (hn.old k (by rw [enter_ver]; exact h1) hq).1
        rw [h2] at this; cases this
    obtain ⟨p, hp⟩ := hβk
    cases bx with
    | mem vr ar cells =>
      obtain ⟨c, el, fr, q1, q2, q3, q4⟩ := hbox
      refine ⟨c, el, fr, q1, q2, q3, fun j e he => ?_⟩
      obtain ⟨u, u1, u2, u3⟩ := q4 j e he
      refine ⟨u, u1, u2, u3.cut hβ hv' (fun b hb => show giveZ st.bs.length β' Z' b from .inl hb) ?_⟩
      have h0 : st.bs[k]? = some st.bs[k] := List.getElem?_eq_getElem h1
      have h5 := hg.fl k st.bs[k] _ (by rw [hflr]; exact h1) (by rw [enter_ver]; exact h0) hbx e (List.mem_of_getElem? he)
      have h6 : refs (st.bs[k]).cells ≤ st.bs.length := refs_le fun x hx => by
        have hbox0 := h.box k p.1 p.2 _ hp h0
        cases hbk : st.bs[k] with
        | mem vr0 ar0 cells0 =>
          rw [hbk] at hbox0 hx
          obtain ⟨_, _, _, _, _, _, r4⟩ := hbox0
          obtain ⟨i, hi⟩ := List.getElem?_of_mem hx
          obtain ⟨_, _, _, r7⟩ := r4 i x hi
          exact r7.ref fun k p hp => h.dom k p.1 p.2 hp
        | _ => rw [hbk] at hx; simp [Box.cells] at hx
      omega
    | iter s pos => exact hbox
    | map e => exact hbox
    | dead => exact hbox
  · have := h.flr; simp; omega
  · have := h.ro; simp; omega
  · have hk := hn.keeps
    rw [hx] at hk
    refine ⟨fun k p hp => ?_, fun b hb => ⟨.inl (hk.z b hb).1, (hk.z b hb).2⟩, fun k c p hp hc => ?_, fun k c hc hc' b base hbb => ?_⟩
    · obtain ⟨p', hp'⟩ := hk.dm k p hp
      exact ⟨p', by show cutB st.bs.length β' k = some p'; rw [hβ k (h.dom k p.1 p.2 hp)]; exact hp'⟩
    · exact hk.ver k c p hp (by have := hv' k (h.dom k p.1 p.2 hp); show st1.ver k = some c; rw [← this]; exact hc)
    · have hkN := h.dom k _ _ hbb
      obtain ⟨r1, r2⟩ := hk.at_ k c (by show st1.ver k = some c; rw [← hv' k hkN]; exact hc) hc' b base hbb
      exact ⟨by show cutB st.bs.length β' k = _; rw [hβ k hkN]; exact r1, r2⟩
  · exact hn.evo.mono fun b ⟨k, base, h1, h2⟩ => ⟨k, base, h1, Nat.le_trans hro h2⟩
  · intro k b base hk
    exact hn.fresh k b base (hβ2 k _ hk).2
  · rintro b (hz | ⟨k2, base2, h3, h4⟩)
    · exact hn.zfresh b hz
    · rcases hn.fresh k2 b base2 h4 with ⟨base', h5⟩ | h5
      · have := h.dom k2 b base' h5; omega
      · exact .inr h5
  · simp; omega
  · intro k hk
    have hkN : k < st.bs.length := Nat.lt_of_lt_of_le hk h.ro
    obtain ⟨r1, r2⟩ := hn.low k (Nat.lt_of_lt_of_le hk hro)
    rw [enter_ver] at r1
    exact ⟨by simp only; rw [hb k hkN]; exact r1, by rw [hβ k hkN]; exact r2⟩
  · intro k hk hk0
    obtain ⟨r1, r2⟩ := hn.old k (by rw [enter_ver]; exact hk) hk0
    rw [enter_ver] at r2
    exact ⟨by rw [hβ k hk]; exact r1, by simp only; rw [hb k hk]; exact r2⟩
  · exact freeze_ok hn.sim hβ hv' rfl kn 16 hf hv
end Go.V
