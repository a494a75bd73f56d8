/-
  Every operation that is no call of a function.
-/
import Derived.Test.YteaeandommcdcaaGreatVo
namespace Go.V
set_option linter.unusedSimpArgs false
set_option linter.unusedVariables false
set_option linter.unusedSectionVars false
set_option linter.unnecessarySimpa false
open Go.RowKit

/-- what the operation gives in the model -/
def Did (P : Program) (a : Act) (o : Oper) (w : World) (v : Value) (w' : World) : Prop :=
  (execOp a.eval o).run P w = .ok (.value v) w' ∨ ((execOp a.eval o).run P w = .ok .skip w' ∧ v = undef)

/-- is it certain that a call of f writes nothing that was there? -/
def isRo (pv : Pv) (f : Nat) : Bool :=
  match pv.fi f with
  | some x => match x.mode with
    | .ro | .nw => true
    | _ => false
  | none => false

/-- does an operation write, or call what may write? -/
def effB (pv : Pv) (o : Oper) : Bool :=
  match o.op with
  | .store _ _ _ => true
  | .next _ _ => true
  | .convert s t _ => markB pv s t
  | .insert _ _ _ _ => true
  | .mapUpdate _ _ _ _ => true
  | .call ⟨.builtin b, _, _⟩ => match b with
    | .len | .min | .max => false
    | _ => true
  | .call ⟨.value (.func f), _, _⟩ => !isRo pv f
  | .call _ => true
  | _ => false

theorem fold_ok {P : Program} {w : World} {x : X} (isMin : Bool) : ∀ (ds : List D) (us : List Value) {d r : D} {u : Value}, ds.length = us.length → (∀ (i : Nat) c v, ds[i]? = some c → us[i]? = some v → VR w x c v) → VR w x d u → foldD (min2D isMin) d ds = some r →
    ∃ z, (us.foldlM (if isMin then Builtin.min2 else Builtin.max2) u).run P w = .ok z w ∧ VR w x r z
  | [], us, d, r, u, hl, _, hd, hf => by
    cases us with
    | nil => simp [foldD] at hf; subst hf; exact ⟨u, by simp, hd⟩
    | cons v us => simp at hl
  | e :: ds, us, d, r, u, hl, hr, hd, hf => by
    cases us with
    | nil => simp at hl
    | cons v us =>
      simp only [foldD] at hf
      obtain ⟨m, hm, hf⟩ := Option.bind_eq_some_iff.1 hf
      have he := hr 0 e v rfl rfl
      unfold min2D at hm
      split at hm
      · rename_i k a k' b
        cases hm
        rw [vr_int hd, vr_int he]
        have hz : VR w x (.int k (if isMin then (if b < a then b else a) else (if b > a then b else a))) (.int k (if isMin then (if b < a then b else a) else (if b > a then b else a))) := .im _ _ (.int _ _)
        obtain ⟨z, h1, h2⟩ := fold_ok (P := P) isMin ds us (by simpa using hl) (fun i c v hc hv => hr (i + 1) c v hc hv) hz hf
        refine ⟨z, ?_, h2⟩
        simp only [List.foldlM_cons, Sem.run_bind]
        cases isMin <;> simp [Builtin.min2, Builtin.max2] at h1 ⊢ <;> exact h1
      · cases hm

theorem lenD_ok {w : World} {x : X} {d : D} {u : Value} {n : Nat} (hu : VR w x d u) (h : lenD d = some n) (hs : ∀ s, d ≠ .str s) : ∃ a c, u = .slice a n c := by
  cases d with
  | sl es => obtain ⟨a, c, rfl, _⟩ := vr_sl hu; simp [lenD] at h; subst h; exact ⟨a, c, rfl⟩
  | nul => simp [lenD] at h; subst h; exact ⟨_, _, vr_nul hu⟩
  | win k v o l s => obtain ⟨a, c, rfl, _⟩ := vr_win hu; simp [lenD] at h; subst h; exact ⟨_, _, rfl⟩
  | str s => exact absurd rfl (hs s)
  | _ => simp [lenD] at h

section
variable {pv : Pv} {P : Program} (ok : pv.Ok P)
include ok

theorem clear_ok {w : World} {st st' : St} {β : Nat → Option (Nat × Nat)} {Z : Nat → Prop} (h : Sim w st β Z) {ats : List TypeId} {ty : TypeId} {d r : D} {u : Value} (hu : VR w (st.x β Z) d u)
    (hs : clearD pv ats d st = some (r, st')) : ∃ z w', (Builtin.clear_ ats.toArray ty #[u]).run P w = .ok z w' ∧ Nx w st β Z w' st' β Z ∧ VR w' (st'.x β Z) r z := by
  unfold clearD at hs
  split at hs
  · rename_i dT rest
    split at hs
    · rename_i e hdt
      split at hs
      · cases hs
        rw [vr_nul hu]
        refine ⟨.tuple #[], w, ?_, Nx.same h, .im _ _ (.tup [] [] rfl (by simp))⟩
        simp only [Builtin.clear_, List.getElem?_toArray, List.getElem?_cons_zero, Sem.run_bind, run_und ok hdt, Result.andThen_ok, Sem.run_pure]
      · rename_i k ver off len sz
        obtain ⟨z, hz, hs⟩ := Option.bind_eq_some_iff.1 hs
        split at hs
        · rename_i hzl
          obtain ⟨st1, hwr, hs⟩ := Option.map_eq_some_iff.1 hs
          cases hs
          obtain ⟨a, cap, rfl, hc, hk, _, hat⟩ := vr_win hu
          have hver : st.ver k = some ver := by
            unfold St.wr at hwr
            split at hwr
            · rename_i hm; exact (mem_spec hm).2
            · cases hwr
          obtain ⟨b, base, sz', hb, _, had⟩ := hat hver
          obtain ⟨zv, hzv, hzc⟩ := zero_cells ok w (st.x β Z) hz
          have hvs : zv.cells.toList.length = sz := by rw [← hzc.len, hzl]
          obtain ⟨q1, q2⟩ := zeros_lr hzc len len (Nat.le_refl _) hvs _ rfl
          have hcells : ((Array.range (len * sz)).map (zv.cells.toList.toArray[· % zv.cells.toList.toArray.size]!)) = Builtin.zeroCells zv.cells len := by
            have : zv.cells.size = sz := by rw [← hvs]; simp
            simp [Builtin.zeroCells, this]
          rw [hcells] at q1 q2
          have hlr : LR w (st.x β Z) (repl len z) (Builtin.zeroCells zv.cells len).toList := by
            refine ⟨by rw [repl_len, hzl, Array.length_toList, q1], fun u hu => ?_, fun i c u hc' hu => ?_⟩
            · obtain ⟨j, hj⟩ := List.getElem?_of_mem hu
              have hjl : j < len * sz := by
                rcases Nat.lt_or_ge j (len * sz) with h' | h'
                · exact h'
                · rw [List.getElem?_eq_none (by rw [Array.length_toList, q1]; exact h')] at hj; cases hj
              obtain ⟨u', hu1, hu2, _⟩ := q2 j _ (List.getElem?_eq_getElem (by rw [repl_len, hzl]; exact hjl))
              rw [Array.getElem?_toList] at hj
              rw [hj] at hu1; cases hu1; exact hu2
            · obtain ⟨u', hu1, _, hu3⟩ := q2 i c hc'
              rw [Array.getElem?_toList] at hu
              rw [hu] at hu1; cases hu1; exact hu3
          have hla : len = 0 ∨ (Builtin.zeroCells zv.cells len).toList = [] ∨ a = ⟨b, base + off, none⟩ := by
            rcases had with rfl | ⟨rfl, _⟩
            · exact .inl (by omega)
            · exact .inr (.inr rfl)
          rcases hla with rfl | hla
          · have h0 : (Builtin.zeroCells zv.cells 0).toList = [] := by simp [Builtin.zeroCells]
            rw [h0] at hlr
            obtain ⟨w', h3, β', h4, rfl⟩ := wr_ok (P := P) (a := ⟨b, base + off, none⟩) h hlr hwr hb (.inl rfl)
            simp only [storeCells, Sem.run_pure, Result.ok.injEq, true_and] at h3
            subst h3
            refine ⟨.tuple #[], w, ?_, h4, .im _ _ (.tup [] [] rfl (by simp))⟩
            simp only [Builtin.clear_, List.getElem?_toArray, List.getElem?_cons_zero, Sem.run_bind, run_und ok hdt, Result.andThen_ok, Sem.run_pure]
          · obtain ⟨w', h3, β', h4, rfl⟩ := wr_ok (P := P) h hlr hwr hb hla
            refine ⟨.tuple #[], w', ?_, h4, .im _ _ (.tup [] [] rfl (by simp))⟩
            cases len with
            | zero =>
              have h0 : (Builtin.zeroCells zv.cells 0).toList = [] := by simp [Builtin.zeroCells]
              rw [h0] at h3
              simp only [storeCells, Sem.run_pure, Result.ok.injEq, true_and] at h3
              subst h3
              simp only [Builtin.clear_, List.getElem?_toArray, List.getElem?_cons_zero, Sem.run_bind, run_und ok hdt, Result.andThen_ok, Sem.run_pure]
            | succ len =>
              simp only [Builtin.clear_, List.getElem?_toArray, List.getElem?_cons_zero, Sem.run_bind, run_und ok hdt, Result.andThen_ok, hzv, h3, Sem.run_pure]
        · cases hs
      · cases hs
    · cases hs
  · cases hs

theorem builtin_ok {w : World} {st st' : St} {β : Nat → Option (Nat × Nat)} {Z : Nat → Prop} (h : Sim w st β Z) {b : Builtin} {ats : List TypeId} {ds : List D} {us : List Value} {ty : TypeId} {cs : Array Bool} {r : D} (hl : ds.length = us.length)
    (hr : ∀ (i : Nat) c v, ds[i]? = some c → us[i]? = some v → VR w (st.x β Z) c v) (hs : builtinD pv b ats ds st = some (r, st')) :
    ∃ z w' β', (builtin b ats.toArray ty cs us.toArray).run P w = .ok (.value z) w' ∧ Nx w st β Z w' st' β' Z ∧ VR w' (st'.x β' Z) r z ∧ (b = .len ∨ b = .min ∨ b = .max → Quiet w w') := by
  unfold builtinD at hs
  split at hs
  · rename_i d
    obtain ⟨u, rfl⟩ : ∃ u, us = [u] := by
      match us, hl with
      | [u], _ => exact ⟨u, rfl⟩
    have hu := hr 0 d u rfl rfl
    split at hs
    · rename_i t rest
      split at hs
      · rename_i ht
        split at hs
        · rename_i s
          cases hs
          rw [vr_str hu]
          refine ⟨.int .i64 s.length, w, β, ?_, Nx.same h, .im _ _ (.int _ _), fun _ => Quiet.refl _⟩
          have hsz : (⟨s.toArray⟩ : ByteArray).size = s.length := by simp [ByteArray.size]
          simp [builtin, Builtin.len_, run_und ok ht, goInt, hsz]
        · cases hs
      · rename_i e ht
        split at hs
        · cases hs
        · rename_i hns
          split at hs
          · rename_i n hn
            cases hs
            obtain ⟨a, c, e⟩ := lenD_ok hu hn hns
            refine ⟨.int .i64 n, w, β, ?_, Nx.same h, .im _ _ (.int _ _), fun _ => Quiet.refl _⟩
            rw [e]
            simp [builtin, Builtin.len_, run_und ok ht, goInt]
          · cases hs
      · rename_i n e ht
        cases hs
        refine ⟨.int .i64 n, w, β, ?_, Nx.same h, .im _ _ (.int _ _), fun _ => Quiet.refl _⟩
        cases u <;> simp [builtin, Builtin.len_, run_und ok ht, goInt]
      · cases hs
    · cases hs
  · rename_i d e
    obtain ⟨u, v, rfl⟩ : ∃ u v, us = [u, v] := by
      match us, hl with
      | [u, v], _ => exact ⟨u, v, rfl⟩
    obtain ⟨z, w', β', h1, h2, h3⟩ := append_ok ok h (ty := ty) (hr 0 d u rfl rfl) (hr 1 e v rfl rfl) hs
    exact ⟨z, w', β', by simp [builtin, h1], h2, h3, fun e => by simp at e⟩
  · rename_i d e
    obtain ⟨u, v, rfl⟩ : ∃ u v, us = [u, v] := by
      match us, hl with
      | [u, v], _ => exact ⟨u, v, rfl⟩
    obtain ⟨z, w', h1, h2, h3⟩ := copy_ok ok h (ty := ty) (hr 0 d u rfl rfl) (hr 1 e v rfl rfl) hs
    exact ⟨z, w', β, by simp [builtin, h1], h2, h3, fun e => by simp at e⟩
  · rename_i d
    obtain ⟨u, rfl⟩ : ∃ u, us = [u] := by
      match us, hl with
      | [u], _ => exact ⟨u, rfl⟩
    obtain ⟨z, w', h1, h2, h3⟩ := clear_ok ok h (ty := ty) (hr 0 d u rfl rfl) hs
    exact ⟨z, w', β, by simp [builtin, h1], h2, h3, fun e => by simp at e⟩
  · rename_i d l
    obtain ⟨u, vs, rfl⟩ : ∃ u vs, us = u :: vs := by
      match us, hl with
      | u :: vs, _ => exact ⟨u, vs, rfl⟩
    obtain ⟨m, hm, hs⟩ := Option.map_eq_some_iff.1 hs
    cases hs
    obtain ⟨z, h1, h2⟩ := fold_ok (P := P) true l vs (by simpa using hl) (fun i c v hc hv => hr (i + 1) c v hc hv) (hr 0 d u rfl rfl) hm
    exact ⟨z, w, β, by simp only [if_true] at h1; simp [builtin, Builtin.min_, h1], Nx.same h, h2, fun _ => Quiet.refl _⟩
  · rename_i d l
    obtain ⟨u, vs, rfl⟩ : ∃ u vs, us = u :: vs := by
      match us, hl with
      | u :: vs, _ => exact ⟨u, vs, rfl⟩
    obtain ⟨m, hm, hs⟩ := Option.map_eq_some_iff.1 hs
    cases hs
    obtain ⟨z, h1, h2⟩ := fold_ok (P := P) false l vs (by simpa using hl) (fun i c v hc hv => hr (i + 1) c v hc hv) (hr 0 d u rfl rfl) hm
    exact ⟨z, w, β, by simp only [Bool.false_eq_true, if_false] at h1; simp [builtin, Builtin.max_, h1], Nx.same h, h2, fun _ => Quiet.refl _⟩
  · cases hs

omit ok in
theorem evs_ok {w : World} {x : X} {fr : Fr} {a : Act} (hf : FrR w x fr a.tmps) (l : List Operand) : ∀ (i : Nat) c v, (l.map fr.ev)[i]? = some c → (l.map a.eval)[i]? = some v → VR w x c v := by
  intro i c v hc hv
  rw [List.getElem?_map] at hc hv
  cases hl : l[i]? with
  | none => simp [hl] at hc
  | some o => simp [hl] at hc hv; subst hc; subst hv; exact ev_ok hf o

omit ok in
theorem parts_ok {w : World} {x : X} {fr : Fr} {a : Act} (hf : FrR w x fr a.tmps) (l : List (Nat × Operand)) : ∀ (i : Nat) p q, (l.map fun p => (p.1, fr.ev p.2))[i]? = some p → (l.map fun p => (p.1, a.eval p.2))[i]? = some q → p.1 = q.1 ∧ VR w x p.2 q.2 := by
  intro i p q hp hq
  rw [List.getElem?_map] at hp hq
  cases hl : l[i]? with
  | none => simp [hl] at hp
  | some o => simp [hl] at hp hq; subst hp; subst hq; exact ⟨rfl, ev_ok hf _⟩

theorem op_ok {w : World} {st st' : St} {β : Nat → Option (Nat × Nat)} {Z : Nat → Prop} (h : Sim w st β Z) {fr : Fr} {a : Act} (hf : FrR w (st.x β Z) fr a.tmps) {o : Oper} {d : D} (hs : opD pv fr st o.op o.type = some (d, st')) :
    ∃ v w' β', Did P a o w v w' ∧ Nx w st β Z w' st' β' Z ∧ VR w' (st'.x β' Z) d v ∧ (effB pv o = false → Quiet w w') := by
  obtain ⟨dst, op, ty, pos, after, guard⟩ := o
  -- an operation that leaves the world alone
  have pure1 : ∀ {s : Sem Value} {d : D} {v : Value}, execOp a.eval ⟨dst, op, ty, pos, after, guard⟩ = (do pure (.value (← s)) : Sem Next) → s.run P w = .ok v w → VR w (st.x β Z) d v →
      ∃ v w' β', Did P a ⟨dst, op, ty, pos, after, guard⟩ w v w' ∧ Nx w st β Z w' st β' Z ∧ VR w' (st.x β' Z) d v ∧ (effB pv ⟨dst, op, ty, pos, after, guard⟩ = false → Quiet w w') := by
    intro s d v he hr hv
    exact ⟨v, w, β, .inl (by rw [he]; simp [hr]), Nx.same h, hv, fun _ => Quiet.refl _⟩
  have full : ∀ {s : Sem Value} {d : D} {st' : St}, execOp a.eval ⟨dst, op, ty, pos, after, guard⟩ = (do pure (.value (← s)) : Sem Next) → (∃ z w' β', s.run P w = .ok z w' ∧ Nx w st β Z w' st' β' Z ∧ VR w' (st'.x β' Z) d z ∧ Quiet w w') →
      ∃ v w' β', Did P a ⟨dst, op, ty, pos, after, guard⟩ w v w' ∧ Nx w st β Z w' st' β' Z ∧ VR w' (st'.x β' Z) d v ∧ (effB pv ⟨dst, op, ty, pos, after, guard⟩ = false → Quiet w w') := by
    rintro s d st' he ⟨z, w', β', h1, h2, h3, h4⟩
    exact ⟨z, w', β', .inl (by rw [he]; simp [h1]), h2, h3, fun _ => h4⟩
  have ev := fun o => ev_ok hf o
  simp only at hs
  unfold opD at hs
  split at hs
  · rename_i x; cases hs; exact ⟨a.eval x, w, β, .inl rfl, Nx.same h, ev x, fun _ => Quiet.refl _⟩
  · rename_i x; cases hs; exact ⟨a.eval x, w, β, .inl rfl, Nx.same h, ev x, fun _ => Quiet.refl _⟩
  · rename_i c p q
    have hc := ev c
    split at hs
    · rename_i hb; cases hs; rw [hb] at hc
      exact pure1 (s := do pure (if ← asBool (a.eval c) then a.eval p else a.eval q)) (by simp [execOp]) (by rw [vr_bool hc]; simp [asBool]) (ev p)
    · rename_i hb; cases hs; rw [hb] at hc
      exact pure1 (s := do pure (if ← asBool (a.eval c) then a.eval p else a.eval q)) (by simp [execOp]) (by rw [vr_bool hc]; simp [asBool]) (ev q)
    · cases hs
  · rename_i e
    obtain ⟨cs, hz, hs⟩ := Option.map_eq_some_iff.1 hs
    cases hs
    exact full rfl (alloc_ok ok h hz)
  · rename_i e x
    obtain ⟨cs, hz, hs⟩ := Option.map_eq_some_iff.1 hs
    cases hs
    exact full rfl (new_ok (P := P) h (cells_ok (ev x) hz) e)
  · rename_i t parts
    obtain ⟨r, hb, hs⟩ := Option.map_eq_some_iff.1 hs
    cases hs
    obtain ⟨z, h1, h2⟩ := build_ok ok (parts' := parts.toList.map fun p => (p.1, a.eval p.2)) (by simp) (parts_ok hf _) hb
    refine pure1 rfl ?_ h2
    have : (parts.map fun (x : Nat × Operand) => match x with | (i, x) => (i, a.eval x)) = (parts.toList.map fun p => (p.1, a.eval p.2)).toArray := by
      apply Array.ext'; simp
    simp only [this]; exact h1
  · rename_i t len parts
    have hb := buildSlice_ok ok h (parts' := parts.toList.map fun p => (p.1, a.eval p.2)) (by simp) (parts_ok hf _) hs
    have : (parts.map fun (x : Nat × Operand) => match x with | (i, x) => (i, a.eval x)) = (parts.toList.map fun p => (p.1, a.eval p.2)).toArray := by
      apply Array.ext'; simp
    refine full (s := Instr.buildSlice t len (parts.map fun (x : Nat × Operand) => match x with | (i, x) => (i, a.eval x))) rfl ?_
    rw [this]; exact hb
  · rename_i t ad
    obtain ⟨r, hl, hs⟩ := Option.map_eq_some_iff.1 hs
    cases hs
    have hv := ev ad
    unfold loadD at hl
    split at hl
    · rename_i k ver off hd
      rw [hd] at hv
      obtain ⟨⟨ar, c⟩, hm, hl⟩ := Option.bind_eq_some_iff.1 hl
      obtain ⟨p, hp, _, hat⟩ := vr_pointer hv
      obtain ⟨b, base, hb, rfl⟩ := hat (mem_spec hm).2
      obtain ⟨z, h1, h2⟩ := take_ok ok ((h.cells hm hb).drop off) hl
      refine pure1 rfl ?_ h2
      rw [hp]; simp [Instr.loadAt, Instr.sureAddr, h1]
    · rename_i c hd
      rw [hd] at hv
      obtain ⟨b, off, hp, _, hc, _⟩ := vr_ep hv
      obtain ⟨z, h1, h2⟩ := take_ok ok hc hl
      refine pure1 rfl ?_ h2
      rw [hp]; simp [Instr.loadAt, Instr.sureAddr, h1]
    · cases hl
  · rename_i t ad x
    obtain ⟨st1, hst, hs⟩ := Option.map_eq_some_iff.1 hs
    cases hs
    obtain ⟨w', h1, h2⟩ := store_ok ok h (ev ad) (ev x) hst
    exact ⟨undef, w', β, .inr ⟨by simp [execOp, h1], rfl⟩, h2, .im _ _ (.tup [] [] rfl (by simp)), fun e => by simp [effB] at e⟩
  · rename_i x
    have hv := ev x
    split at hs
    · rename_i k v o hd; cases hs; rw [hd] at hv
      obtain ⟨p, hp, _⟩ := vr_pointer hv
      exact ⟨a.eval x, w, β, .inl (by simp [execOp, hp]), Nx.same h, hv, fun _ => Quiet.refl _⟩
    · rename_i c hd; cases hs; rw [hd] at hv
      obtain ⟨b, off, hp, _⟩ := vr_ep hv
      exact ⟨a.eval x, w, β, .inl (by simp [execOp, hp]), Nx.same h, hv, fun _ => Quiet.refl _⟩
    · rename_i f c hd; cases hs; rw [hd] at hv
      obtain ⟨vs, hp, _⟩ := vr_fn hv
      exact ⟨a.eval x, w, β, .inl (by simp [execOp, hp]), Nx.same h, hv, fun _ => Quiet.refl _⟩
    · cases hs
  · rename_i bop t x y _
    obtain ⟨r, hb, hs⟩ := Option.map_eq_some_iff.1 hs
    cases hs
    obtain ⟨z, h1, h2⟩ := bin_ok ok x y (ev x) (ev y) hb
    exact pure1 rfl h1 h2
  · rename_i uop t x
    obtain ⟨r, hb, hs⟩ := Option.map_eq_some_iff.1 hs
    cases hs
    obtain ⟨z, h1, h2⟩ := un_ok (P := P) (ev x) hb
    exact pure1 rfl h1 h2
  · rename_i s t x
    obtain ⟨z, w', β', h1, h2, h3, h4⟩ := conv_ok ok h (ev x) hs
    exact ⟨z, w', β', .inl (by simp [execOp, h1]), h2, h3, fun e => h4 (by simpa [effB] using e)⟩
  · rename_i f first captured
    split at hs
    · rename_i hfe
      cases hs
      have hfe : first = #[] := by simpa using hfe
      subst hfe
      refine ⟨.func (.func f) #[] (captured.toList.map a.eval).toArray, w, β, .inl ?_, Nx.same h, .fn f _ _ (by simp) (evs_ok hf _), fun _ => Quiet.refl _⟩
      have : captured.map a.eval = (captured.toList.map a.eval).toArray := by apply Array.ext'; simp
      rw [← this]
      simp [execOp, Instr.makeFunc]
    · cases hs
  · rename_i t l c
    exact full rfl (makeSlice_ok ok h (ev l) (ev c) hs)
  · rename_i t x lo hi
    obtain ⟨r, hb, hs⟩ := Option.map_eq_some_iff.1 hs
    cases hs
    obtain ⟨z, h1, h2⟩ := slice_ok ok h (lo' := lo.map a.eval) (hi' := hi.map a.eval) (ev x) (fun d v e1 e2 => by cases lo with | none => cases e1 | some q => cases e1; cases e2; exact ev q) (fun d v e1 e2 => by cases hi with | none => cases e1 | some q => cases e1; cases e2; exact ev q) (by cases lo <;> rfl) (by cases hi <;> rfl) hb
    exact pure1 rfl h1 h2
  · rename_i t x f
    obtain ⟨r, hb, hs⟩ := Option.map_eq_some_iff.1 hs
    cases hs
    obtain ⟨z, h1, h2⟩ := fieldAddr_ok ok (ev x) hb
    exact pure1 rfl h1 h2
  · rename_i t x f
    obtain ⟨r, hb, hs⟩ := Option.map_eq_some_iff.1 hs
    cases hs
    obtain ⟨z, h1, h2⟩ := field_ok ok (ev x) hb
    exact pure1 rfl h1 h2
  · rename_i t x i
    obtain ⟨r, hb, hs⟩ := Option.map_eq_some_iff.1 hs
    cases hs
    obtain ⟨z, h1, h2⟩ := indexAddr_ok ok (ev x) (ev i) hb
    exact pure1 rfl h1 h2
  · rename_i t x i
    obtain ⟨r, hb, hs⟩ := Option.map_eq_some_iff.1 hs
    cases hs
    obtain ⟨z, h1, h2⟩ := index_ok ok (ev x) (ev i) hb
    exact pure1 rfl h1 h2
  · rename_i t x
    exact full rfl (range_ok ok h (ev x) hs)
  · rename_i t r
    obtain ⟨z, w', β', h1, h2, h3, h4⟩ := makeMap_ok ok h (u := r.map a.eval) (by cases r <;> simp) (fun d v e1 e2 => by cases r with | none => cases e1 | some q => cases e1; cases e2; exact ev q) hs
    exact ⟨z, w', β', .inl (by simp [execOp, h1]), h2, h3, fun _ => h4⟩
  · rename_i t m k x
    obtain ⟨st1, hst, hs⟩ := Option.map_eq_some_iff.1 hs
    cases hs
    obtain ⟨w', h1, h2⟩ := mapSet_ok ok h (ev m) (ev k) (ev x) hst
    exact ⟨undef, w', β, .inr ⟨by simp [execOp, h1], rfl⟩, h2, .im _ _ (.tup [] [] rfl (by simp)), fun e => by simp [effB] at e⟩
  · rename_i t m k x
    obtain ⟨st1, hst, hs⟩ := Option.map_eq_some_iff.1 hs
    cases hs
    obtain ⟨w', h1, h2⟩ := mapSet_ok ok h (ev m) (ev k) (ev x) hst
    exact ⟨undef, w', β, .inr ⟨by simp [execOp, h1], rfl⟩, h2, .im _ _ (.tup [] [] rfl (by simp)), fun e => by simp [effB] at e⟩
  · rename_i t x i
    obtain ⟨r, hb, hs⟩ := Option.map_eq_some_iff.1 hs
    cases hs
    obtain ⟨z, h1, h2⟩ := lookup_ok ok h (ev x) (ev i) hb
    exact pure1 rfl h1 h2
  · rename_i it s
    obtain ⟨z, w', h1, h2, h3⟩ := next_ok (P := P) (ty := ty) h (ev it) hs
    exact ⟨z, w', β, .inl (by simp [execOp, h1]), h2, h3, fun e => by simp [effB] at e⟩
  · rename_i t i
    have hv := ev t
    split at hs
    · rename_i ds hd
      rw [hd] at hv
      obtain ⟨r, hb, hs⟩ := Option.map_eq_some_iff.1 hs
      cases hs
      obtain ⟨vs, hp, hl, hr⟩ := vr_tup hv
      have hi : i < ds.length := by
        rcases Nat.lt_or_ge i ds.length with h' | h'
        · exact h'
        · rw [List.getElem?_eq_none h'] at hb; cases hb
      have hi' : vs[i]? = some (vs[i]'(by omega)) := List.getElem?_eq_getElem _
      refine pure1 rfl ?_ (hr i _ _ hb hi')
      rw [hp]; simp [Instr.extract, hi']
    · cases hs
  · rename_i b args ats
    have hb := builtin_ok ok h (us := args.toList.map a.eval) (ty := ty) (cs := args.map fun | .const _ => true | _ => false) (by simp) (evs_ok hf _) hs
    obtain ⟨z, w', β', h1, h2, h3, h4⟩ := hb
    refine ⟨z, w', β', .inl ?_, h2, h3, fun e => h4 (by cases b <;> simp [effB] at e ⊢)⟩
    have : args.map a.eval = (args.toList.map a.eval).toArray := by apply Array.ext'; simp
    simp only [Array.toArray_toList] at h1
    simp only [execOp, resolve, invoke, this, Sem.run_bind, Sem.run_pure, Result.andThen_ok]
    exact h1
  · cases hs
end
end Go.V
