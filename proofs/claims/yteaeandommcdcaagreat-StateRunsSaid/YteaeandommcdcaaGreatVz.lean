/-
  Calls: V's answers are the model's, at every depth.
-/
import Derived.Test.YteaeandommcdcaaGreatVy
namespace Go.V
set_option linter.unusedSimpArgs false
set_option linter.unusedVariables false
set_option linter.unusedSectionVars false
set_option linter.unnecessarySimpa false
open Go.RowKit

theorem codeOk_mono {pv : Pv} {dyn : List (Nat × List (Nat × Nat))} {n m : Nat} (hnm : n ≤ m) : ∀ (c : Code), codeOk pv dyn n c = true → codeOk pv dyn m c = true := by
  intro c
  induction c with
  | region id ops d =>
    intro h
    simp only [codeOk, Bool.and_eq_true] at h ⊢
    refine ⟨List.all_eq_true.2 fun o ho => ?_, h.2⟩
    have h1 := dstOk_of h.1 o ho
    cases hd : o.dst with
    | none => rfl
    | some t => exact Nat.ble_eq_true_of_le (Nat.le_trans (h1 t hd) hnm)
  | seq a b iha ihb => intro h; simp only [codeOk, Bool.and_eq_true] at h ⊢; exact ⟨iha h.1, ihb h.2⟩
  | cond c a b iha ihb => intro h; simp only [codeOk, Bool.and_eq_true] at h ⊢; exact ⟨iha h.1, ihb h.2⟩
  | block id c ih => intro h; simp only [codeOk] at h ⊢; exact ih h
  | loop c ih => intro h; simp only [codeOk] at h ⊢; exact ih h
  | _ => intro h; rfl

def resRow (tmps : Array Value) : ResultVar → Sem Value
  | .tmp t => pure (tmps.getD t undef)
  | .cell a t => do loadVar t (← asAddr (tmps.getD a undef))

theorem results_eq (fn : Func) (tmps : Array Value) : results fn tmps = (do let vs ← fn.results.mapM (resRow tmps); pure (if h : vs.size = 1 then vs[0] else .tuple vs)) := rfl

theorem nth_eq (d : D) : ∀ (l : List D) (t : Nat), nth d l t = (l[t]?).getD d
  | [], t => by simp [nth]
  | x :: l, 0 => rfl
  | x :: l, t + 1 => by simpa [nth] using nth_eq d l t

theorem res_ok {pv : Pv} {P : Program} (ok : pv.Ok P) {w : World} {st : St} {β : Nat → Option (Nat × Nat)} {Z : Nat → Prop} (h : Sim w st β Z) {fr : Fr} {tmps : Array Value} (hf : FrR w (st.x β Z) fr tmps) : ∀ (rs : List ResultVar) {ds : List D}, resD pv fr st rs = some ds →
    ∃ vs : List Value, (rs.mapM (resRow tmps)).run P w = .ok vs w ∧ ds.length = vs.length ∧ ∀ (i : Nat) c u, ds[i]? = some c → vs[i]? = some u → VR w (st.x β Z) c u
  | [], ds, hr => by simp only [resD] at hr; cases hr; exact ⟨[], by simp, rfl, fun i c u hc => by simp at hc⟩
  | .tmp t :: l, ds, hr => by
    simp only [resD] at hr
    obtain ⟨es, he, hr⟩ := Option.map_eq_some_iff.1 hr
    cases hr
    obtain ⟨vs, h1, h2, h3⟩ := res_ok ok h hf l he
    refine ⟨tmps.getD t undef :: vs, by simp only [List.mapM_cons, resRow, Sem.run_bind, Sem.run_pure, Result.andThen_ok, h1], by simp [h2], fun i c u hc hu => ?_⟩
    cases i with
    | zero => simp at hc hu; subst hc; rw [← hu]; have := hf t; simpa using this
    | succ i => exact h3 i c u (by simpa using hc) (by simpa using hu)
  | .cell a t :: l, ds, hr => by
    simp only [resD] at hr
    obtain ⟨d, hd, hr⟩ := Option.bind_eq_some_iff.1 hr
    obtain ⟨es, he, hr⟩ := Option.map_eq_some_iff.1 hr
    cases hr
    obtain ⟨vs, h1, h2, h3⟩ := res_ok ok h hf l he
    have hv := hf a
    have hld : ∃ z, (resRow tmps (.cell a t)).run P w = .ok z w ∧ VR w (st.x β Z) d z := by
      unfold loadD at hd
      split at hd
      · rename_i k ver off hg
        rw [hg] at hv
        obtain ⟨⟨ar, c⟩, hm, hd⟩ := Option.bind_eq_some_iff.1 hd
        obtain ⟨p, hp, _, hat⟩ := vr_pointer hv
        obtain ⟨b, base, hb, rfl⟩ := hat (mem_spec hm).2
        obtain ⟨z, h1, h2⟩ := take_ok ok ((h.cells hm hb).drop off) hd
        exact ⟨z, by simp only [resRow]; rw [hp]; simp [asAddr, h1], h2⟩
      · rename_i c hg
        rw [hg] at hv
        obtain ⟨b, off, hp, _, hc, _⟩ := vr_ep hv
        obtain ⟨z, h1, h2⟩ := take_ok ok hc hd
        exact ⟨z, by simp only [resRow]; rw [hp]; simp [asAddr, h1], h2⟩
      · cases hd
    obtain ⟨z, z1, z2⟩ := hld
    refine ⟨z :: vs, by simp only [List.mapM_cons, Sem.run_bind, z1, Sem.run_pure, Result.andThen_ok, h1], by simp [h2], fun i c u hc hu => ?_⟩
    cases i with
    | zero => simp at hc hu; subst hc; subst hu; exact z2
    | succ i => exact h3 i c u (by simpa using hc) (by simpa using hu)

theorem results_ok {pv : Pv} {P : Program} (ok : pv.Ok P) {w : World} {st : St} {β : Nat → Option (Nat × Nat)} {Z : Nat → Prop} (h : Sim w st β Z) {fr : Fr} {tmps : Array Value} (hf : FrR w (st.x β Z) fr tmps) {fn : Func} {ds : List D} (hr : resD pv fr st fn.results.toList = some ds) :
    ∃ v, (results fn tmps).run P w = .ok v w ∧ VR w (st.x β Z) (tupD ds) v := by
  obtain ⟨vs, h1, h2, h3⟩ := res_ok ok h hf _ hr
  have hrun : (fn.results.mapM (resRow tmps)).run P w = .ok vs.toArray w := by
    rw [Array.mapM_eq_mapM_toList, Sem.run_map, h1]; rfl
  refine ⟨if h : vs.toArray.size = 1 then vs.toArray[0] else .tuple vs.toArray, ?_, ?_⟩
  · rw [results_eq]
    simp only [Sem.run_bind]
    rw [hrun]
    simp only [Result.andThen_ok, Sem.run_pure]
  · match ds, vs, h2 with
    | [], [], _ => exact .tup [] [] rfl (by simp)
    | [d], [v], _ => exact h3 0 d v rfl rfl
    | d :: e :: l, u :: v :: l', h2 =>
      rw [dif_neg (by simp)]
      exact .tup _ _ h2 h3

theorem pad_ok {w : World} {x : X} {args : List D} {us : List Value} {n m : Nat} (hl : args.length = us.length) (hr : ∀ (i : Nat) c v, args[i]? = some c → us[i]? = some v → VR w x c v) :
    FrR w x (pad n args) (us.toArray ++ Array.replicate m undef) := by
  intro t
  simp only [pad, Fr.get]
  cases hb : Nat.ble n t with
  | true => exact .junk _ _ _
  | false =>
    simp only
    rw [nth_eq]
    simp only [Array.getD_eq_getD_getElem?]
    rw [List.getElem?_append, Array.getElem?_append]
    simp only [List.size_toArray, List.getElem?_toArray]
    by_cases ht : t < args.length
    · rw [if_pos ht, if_pos (by omega), List.getElem?_eq_getElem ht, List.getElem?_eq_getElem (by omega : t < us.length)]
      exact hr t _ _ (List.getElem?_eq_getElem ht) (List.getElem?_eq_getElem _)
    · rw [if_neg ht, if_neg (by omega)]
      have hu : ((Array.replicate m undef)[t - us.length]?).getD undef = undef := by
        rw [Array.getElem?_replicate]; split <;> rfl
      rw [hu]
      rw [List.getElem?_replicate]
      split
      · exact .im _ _ (.tup [] [] rfl (by simp))
      · exact .junk _ _ _

/-- the static look at every function -/
def Pv.codes (pv : Pv) : Prop := ∀ f x b, pv.fi f = some x → x.prim = none → x.fn.body = some b → codeOk pv x.dyn x.fn.ntmps b = true

/-- V's own answers, where a function is given by a prim -/
def primF (pv : Pv) : CallF := fun f ds st => match lookP f pv.prm with
  | some p => p ds st
  | none => match pv.fi f with
  | some x => match x.prim with
    | some p => p ds st
    | none => none
  | none => none

theorem leave_goes {m : Mode} {kn : Bool} {st st1 st' : St} {d d' : D} (hg : Goes (enterSt m st) st1) (hl : leaveD m kn st st1 d = some (d', st')) : Goes st st' ∧ (m = .ro ∨ m = .nw → Adds st st') := by
  by_cases hm : m = .keep
  · subst hm
    simp only [leaveD] at hl; cases hl
    exact ⟨hg, fun h => by rcases h with h | h <;> cases h⟩
  by_cases hw : m = .nw
  · subst hw
    simp only [leaveD] at hl; cases hl
    have hlen : st.bs.length ≤ st1.bs.length := hg.len
    have hlow : ∀ k, k < st.bs.length → st1.bs[k]? = st.bs[k]? := fun k hk => hg.low k hk hk
    have : Adds st ⟨st1.bs, st.flr, st.ro⟩ := by
      refine ⟨st1.bs.drop st.bs.length, ?_⟩
      congr 1
      apply List.ext_getElem?
      intro k
      by_cases hk : k < st.bs.length
      · rw [List.getElem?_append_left hk]; exact hlow k hk
      · rw [List.getElem?_append_right (by omega), List.getElem?_drop]; congr 1; omega
    exact ⟨this.goes, fun _ => this⟩
  have hl : st' = ⟨st1.bs.take st.bs.length, st.flr, st.ro⟩ := by
    cases m <;> first | exact absurd rfl hm | exact absurd rfl hw | skip
    all_goals
      simp only [leaveD] at hl
      split at hl
      · cases hl; rfl
      · cases hl
  subst hl
  have hlen : st.bs.length ≤ st1.bs.length := by have := hg.len; rw [enter_ver] at this; exact this
  have hb : ∀ k, k < st.bs.length → (st1.bs.take st.bs.length)[k]? = st1.bs[k]? := fun k hk => by rw [List.getElem?_take, if_pos hk]
  have hflr : (enterSt m st).flr = st.bs.length := by cases m <;> first | rfl | exact absurd rfl hm | exact absurd rfl hw
  refine ⟨⟨by simp; omega, rfl, rfl, fun k hk hk2 => ?_, fun k bx bx' hk h1 h2 d hd => ?_⟩, fun h => ?_⟩
  · have := hg.low k (by cases m <;> first | exact absurd rfl hw | exact hk | exact hk2) (by rw [enter_ver]; exact hk2)
    rw [enter_ver] at this
    simp only; rw [hb k hk2]; exact this
  · have hk2 := lt_of_some h1
    simp only at h2
    rw [hb k hk2] at h2
    exact hg.fl k bx bx' (by rw [hflr]; exact hk2) (by rw [enter_ver]; exact h1) h2 d hd
  · have h := h.resolve_right hw
    subst h
    have : st1.bs.take st.bs.length = st.bs := by
      apply List.ext_getElem?
      intro k
      by_cases hk : k < st.bs.length
      · rw [hb k hk]
        have := hg.low k hk (by rw [enter_ver]; exact hk)
        rw [enter_ver] at this; exact this
      · rw [List.getElem?_eq_none (by simp; omega), List.getElem?_eq_none (by omega)]
    rw [this]
    exact .rfl _

/-- V's answers are the model's -/
theorem call_ok {pv : Pv} {P : Program} (ok : pv.Ok P) (hc : pv.codes) (hp : CfOk P pv (primF pv)) : ∀ n, CfOk P pv (callD pv n)
  | 0 => ⟨fun f ds st r h => (by cases h), fun f ds st d st' h => (by cases h), fun f ds st d st' h => (by cases h), fun f ds st d st' h => (by cases h)⟩
  | n + 1 => by
    have ih := call_ok ok hc hp n
    have key : ∀ {f : Nat} {ds : List D} {st : St} {r : D × St}, callD pv (n + 1) f ds st = some r → (primF pv f ds st = some r) ∨ ∃ x body, pv.fi f = some x ∧ x.prim = none ∧ x.fn.body = some body ∧ bodyD pv (callD pv n) n x body ds st = some r := by
      intro f ds st r h
      simp only [callD] at h
      split at h
      · rename_i p hl; left; simp only [primF, hl]; exact h
      rename_i hl
      split at h
      · rename_i x hx
        split at h
        · rename_i p hpx; left; simp only [primF, hl, hx, hpx]; exact h
        · rename_i hpx
          split at h
          · rename_i body hb; exact .inr ⟨x, body, hx, hpx, hb, h⟩
          · cases h
      · cases h
    have body : ∀ {x : Fi} {body : Code} {ds : List D} {st : St} {d : D} {st' : St}, bodyD pv (callD pv n) n x body ds st = some (d, st') →
        ∃ out fr st1 es, codeD pv (callD pv n) x.dyn n body (pad x.nloc ds) (enterSt x.mode st) = some (out, fr, st1) ∧ (∀ i, out ≠ .exit i) ∧ resD pv fr st1 x.fn.results.toList = some es ∧ leaveD x.mode x.knul st st1 (tupD es) = some (d, st') := by
      intro x body ds st d st' h
      unfold bodyD at h
      split at h
      · cases h
      · rename_i out fr st1 hne hcd
        split at h
        · rename_i es hr
          exact ⟨out, fr, st1, es, hcd, fun i hi => by subst hi; exact hne _ rfl, hr, h⟩
        · cases h
      · cases h
    refine ⟨fun f ds st r h => ?_, fun f ds st d st' h => ?_, fun f ds st d st' h hro => ?_, fun f ds st d st' h => ?_⟩
    · rcases key h with h | ⟨x, b, hx, hpx, hb, _⟩
      · exact hp.fn f ds st r h
      · obtain ⟨h1, h2⟩ := ok.fs f x hx hpx
        exact ⟨x.fn, b, h1, hb, h2 b hb⟩
    · rcases key h with h | ⟨x, b, hx, hpx, hb, hbd⟩
      · exact hp.calls f ds st d st' h
      · intro w β Z us hs hl hr
        obtain ⟨out, fr, st1, es, hcd, hne, hres, hlv⟩ := body hbd
        obtain ⟨h1, h2⟩ := ok.fs f x hx hpx
        refine calls_of_wp h1 hb ?_
        have hs' := enter_sim hs x.mode
        have hx' : (enterSt x.mode st).x β Z = st.x β Z := by simp only [St.x]; congr 1; funext k; simp only [St.ver, enter_ver]
        have hf : FrR w ((enterSt x.mode st).x β Z) (pad x.nloc ds) (us.toArray ++ Array.replicate (x.fn.ntmps - us.toArray.size) undef) := by rw [hx']; exact pad_ok hl hr
        refine code_ok ok ih x.dyn n _ b (codeOk_mono ?_ b (hc f x b hx hpx hb)) hcd hs' hf rfl fun a' w' β' Z' hn hf' hd _ => ?_
        · simp; omega
        · obtain ⟨v, hv1, hv2⟩ := results_ok ok hn.sim hf' hres
          obtain ⟨β'', Z'', hn', hv'⟩ := leave_ok hs x.mode x.knul hn (code_goes ih x.dyn n b hcd) hv2 hlv
          have hfin : a'.defers = [] ∧ ∃ v, (results x.fn a'.tmps).run P w' = .ok v w' ∧ (∃ v' β' Z', Ending.returned v = .returned v' ∧ Nx w st β Z w' st' β' Z' ∧ VR w' (st'.x β' Z') d v' ∧ (isRo pv f = true → Quiet w w')) := by
            refine ⟨hd, v, hv1, v, β'', Z'', rfl, hn', hv', fun hro => ?_⟩
            have hm : x.mode = .ro ∨ x.mode = .nw := by
              unfold isRo at hro
              rw [hx] at hro
              simp only at hro
              split at hro
              · exact .inl (by assumption)
              · exact .inr (by assumption)
              · cases hro
            intro c hcl
            refine hn.evo.block c hcl ?_
            rintro ⟨k, base, h5, h6⟩
            have := hs.dom k c base h5
            rcases hm with hm | hm <;> rw [hm] at h6 <;> simp only [enterSt] at h6 <;> omega
          cases out with
          | next => exact hfin
          | ret => exact hfin
          | exit i => exact absurd rfl (hne i)
    · rcases key h with h | ⟨x, b, hx, hpx, hb, hbd⟩
      · exact hp.ro f ds st d st' h hro
      · obtain ⟨out, fr, st1, es, hcd, hne, hres, hlv⟩ := body hbd
        have hm : x.mode = .ro ∨ x.mode = .nw := by
          unfold isRo at hro
          rw [hx] at hro
          simp only at hro
          split at hro
          · exact .inl (by assumption)
          · exact .inr (by assumption)
          · cases hro
        exact (leave_goes (code_goes ih x.dyn n b hcd) hlv).2 hm
    · rcases key h with h | ⟨x, b, hx, hpx, hb, hbd⟩
      · exact hp.len f ds st d st' h
      · obtain ⟨out, fr, st1, es, hcd, hne, hres, hlv⟩ := body hbd
        exact (leave_goes (code_goes ih x.dyn n b hcd) hlv).1
end Go.V
