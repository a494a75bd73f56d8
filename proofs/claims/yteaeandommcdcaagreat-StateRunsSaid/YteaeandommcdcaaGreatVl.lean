/-
  append, make, conversions, iterators.
-/
import Derived.Test.YteaeandommcdcaaGreatVk
namespace Go.V
set_option linter.unusedSimpArgs false
set_option linter.unusedVariables false
set_option linter.unusedSectionVars false
set_option linter.unnecessarySimpa false
open Go.RowKit

theorem grow_le : ∀ (r c n : Nat), c ≤ n + n / 4 + 192 → Builtin.growBy n r c ≤ n + n / 4 + 192
  | 0, c, n, h => h
  | r + 1, c, n, h => by
    unfold Builtin.growBy
    split
    · exact h
    · exact grow_le r _ n (by omega)

theorem next_le (n c : Nat) (h : c ≤ n) : Builtin.nextslicecap n c ≤ 2 * n + 192 := by
  unfold Builtin.nextslicecap
  split
  · omega
  · split
    · omega
    · have := grow_le 4 c n (by omega); omega

theorem next_room {need c bytes : Nat} (hc : c ≤ need) (h1 : 1 ≤ need) (h : need * bytes ≤ 1099511627776) : ¬ Builtin.nextslicecap need c * bytes > 2 ^ 48 := by
  have h2 := Nat.mul_le_mul_right bytes (next_le need c hc)
  rw [Nat.add_mul, Nat.mul_assoc] at h2
  have h3 : bytes ≤ need * bytes := by have := Nat.mul_le_mul_right bytes h1; omega
  have : 192 * bytes ≤ 192 * 1099511627776 := Nat.mul_le_mul_left _ (by omega)
  omega

theorem cap_ge (need old : Nat) (el : TypeId) (t : Nat) : need ≤ (Question.appendCap need old el).cut t := by
  simp only [Question.cut]; omega

theorem alloc_push {w : World} {o : Obj} : (w.alloc o).heap = w.heap.push o := rfl

theorem rowSize_alloc (w : World) (cs : Array Value) (el : TypeId) (fr : Nat × Nat) : rowSize (w.alloc (.cells cs el fr)) w.heap.size = some cs.size := by
  have : (w.alloc (.cells cs el fr)).heap[w.heap.size]? = some (.cells cs el fr) := by
    show (w.heap.push _)[w.heap.size]? = _
    simp
  simp only [rowSize, this]

theorem win_fresh {w' : World} {x : X} {k v len s cap b sz : Nat} (hver : x.ver k = some v) (hb : x.β k = some (b, 0)) (hsz : rowSize w' b = some sz) (hl : len ≤ cap) (hc : cap * s ≤ sz) :
    VR w' x (.win k v 0 len s) (.slice (some ⟨b, 0, none⟩) len cap) := by
  refine .win k v 0 len s _ cap hl ⟨_, hb⟩ (fun c hc' => ?_) fun _ => ⟨b, 0, sz, hb, hsz, .inr ⟨rfl, by omega⟩⟩
  rw [hver] at hc'; cases hc'; exact Nat.le_refl _

/-- what append comes to where there is room -/
def appIn (i : TypeInfo) (base : Option Addr) (sLen sCap n : Nat) (v : Value) : Sem Value := do
  let new ← Builtin.firstCells i.size n v
  if let some a := base then storeCells (a.add (sLen * i.size)) new.toList
  pure (.slice base (sLen + n) sCap)

/-- and where there is none -/
def appOut (el : TypeId) (i : TypeInfo) (base : Option Addr) (sLen sCap n : Nat) (v : Value) : Sem Value := do
  let newCap ← choose (.appendCap (sLen + n) sCap el)
  askRoom (newCap * i.bytes)
  let old ← Builtin.firstCells i.size sLen (.slice base sLen sCap)
  let new ← Builtin.firstCells i.size n v
  let z ← zeroValue el
  pure (.slice (some (← newRow el (old ++ new ++ Builtin.zeroCells z.cells (newCap - (sLen + n))))) (sLen + n) newCap)

section
variable {pv : Pv} {P : Program} (ok : pv.Ok P)
include ok

theorem app_in {w : World} {sT xT el n : Nat} {rest : List TypeId} {ty : TypeId} {xd : TypeDesc} {i : TypeInfo} {base : Option Addr} {sLen sCap : Nat} {v : Value} (hsT : pv.und sT = some (.slice el)) (hxT : pv.und xT = some xd) (hnz : ¬ isIntT xd = true)
    (hi : pv.info el = some i) (hlen : (Builtin.lenOf v).run P w = .ok n w) (hcap : sLen + n ≤ sCap) :
    (Builtin.append_ (sT :: xT :: rest).toArray ty #[.slice base sLen sCap, v]).run P w = (appIn i base sLen sCap n v).run P w := by
  have hsize : ∀ w' : World, (sizeOf el).run P w' = .ok i.size w' := run_size ok (size_of_info hi)
  cases xd <;> first
    | exact absurd rfl hnz
    | (simp only [Builtin.append_, appIn, List.getElem?_toArray, List.getElem?_cons_zero, List.getElem?_cons_succ, Sem.run_bind, run_und ok hsT, run_und ok hxT, Result.andThen_ok, hsize, Sem.run_pure, Bool.false_eq_true, if_false, hlen, hcap, if_true, Bool.not_false]; rfl)

theorem app_out {w : World} {sT xT el n : Nat} {rest : List TypeId} {ty : TypeId} {xd : TypeDesc} {i : TypeInfo} {base : Option Addr} {sLen sCap : Nat} {v : Value} (hsT : pv.und sT = some (.slice el)) (hxT : pv.und xT = some xd) (hnz : ¬ isIntT xd = true)
    (hi : pv.info el = some i) (hlen : (Builtin.lenOf v).run P w = .ok n w) (hcap : ¬ sLen + n ≤ sCap) (hby : ¬ i.bytes = 0) (hroom : ¬ Builtin.nextslicecap (sLen + n) sCap * i.bytes > 2 ^ 48) :
    (Builtin.append_ (sT :: xT :: rest).toArray ty #[.slice base sLen sCap, v]).run P w = (appOut el i base sLen sCap n v).run P w := by
  have hsize : ∀ w' : World, (sizeOf el).run P w' = .ok i.size w' := run_size ok (size_of_info hi)
  have hinfo : ∀ w' : World, (typeInfo el).run P w' = .ok i w' := run_info ok hi
  cases xd <;> first
    | exact absurd rfl hnz
    | (simp only [Builtin.append_, appOut, List.getElem?_toArray, List.getElem?_cons_zero, List.getElem?_cons_succ, Sem.run_bind, run_und ok hsT, run_und ok hxT, Result.andThen_ok, hsize, Sem.run_pure, Bool.false_eq_true, if_false, hlen, hcap, hinfo, hby, hroom, or_self, and_false, Bool.not_false, if_true]; try rfl)
theorem append_ok {w : World} {st st' : St} {β : Nat → Option (Nat × Nat)} {Z : Nat → Prop} (h : Sim w st β Z) {ats : List TypeId} {ty : TypeId} {d e r : D} {u v : Value} (hu : VR w (st.x β Z) d u) (hv : VR w (st.x β Z) e v)
    (hs : appendD pv ats d e st = some (r, st')) : ∃ z w' β', (Builtin.append_ ats.toArray ty #[u, v]).run P w = .ok z w' ∧ Nx w st β Z w' st' β' Z ∧ VR w' (st'.x β' Z) r z := by
  unfold appendD at hs
  split at hs
  · rename_i sT xT rest
    split at hs
    · rename_i el xd hsT hxT
      split at hs
      · cases hs
      · rename_i hnz
        obtain ⟨i, hi, hs⟩ := Option.bind_eq_some_iff.1 hs
        obtain ⟨z, hz, hs⟩ := Option.bind_eq_some_iff.1 hs
        obtain ⟨⟨n, ys⟩, hrow, hs⟩ := Option.bind_eq_some_iff.1 hs
        dsimp only at hs
        split at hs
        · cases hs
        · rename_i hck
          simp only [not_or] at hck
          obtain ⟨hys, hby, hzl⟩ := hck
          have hys : ys.length = n * i.size := Decidable.not_not.1 hys
          have hzl : z.length = i.size := Decidable.not_not.1 hzl
          obtain ⟨hlen, hcells⟩ := row_ok (P := P) h hv hrow
          obtain ⟨us, hus1, hus2⟩ := hcells i.size n (Nat.le_refl _) hys
          rw [← hys, List.take_length] at hus2
          have hS : Nx w st β Z w.drew st β Z := Nx.still h rfl rfl rfl rfl
          obtain ⟨zv, hzv, hzc⟩ := zero_cells ok w.drew (st.x β Z) hz
          have hzs : zv.cells.size = i.size := by have := hzc.len; rw [hzl] at this; simpa using this.symm
          obtain ⟨vs, hvs1, hvs2⟩ := (row_ok (P := P) hS.sim (hv.mono hS.keeps) hrow).2 i.size n (Nat.le_refl _) hys
          rw [← hys, List.take_length] at hvs2
          -- the grown row
          have grow : ∀ (base : Option Addr) (sLen sCap : Nat) (os : List Value), u = .slice base sLen sCap → ¬ (sLen + n ≤ sCap) → (Builtin.firstCells i.size sLen u).run P w.drew = .ok os.toArray w.drew → os.length = sLen * i.size →
              1 ≤ sLen + n → (sLen + n) * i.bytes ≤ 1099511627776 →
              ∃ cap cs, (Builtin.append_ (sT :: xT :: rest).toArray ty #[u, v]).run P w = .ok (.slice (some ⟨w.heap.size, 0, none⟩) (sLen + n) cap) (w.drew.alloc (.cells cs el)) ∧ sLen + n ≤ cap ∧
                cap * i.size ≤ cs.size ∧ ∀ (j : Nat) q, (os ++ vs)[j]? = some q → cs[j]? = some q := by
            intro base sLen sCap os hue hcap hos hosl h1 hroom
            subst hue
            have hcut := cap_ge (sLen + n) sCap el (w.tape w.drawn (.appendCap (sLen + n) sCap el))
            generalize hq : (Question.appendCap (sLen + n) sCap el).cut (w.tape w.drawn (.appendCap (sLen + n) sCap el)) = cap at hcut
            refine ⟨cap, os.toArray ++ vs.toArray ++ Builtin.zeroCells zv.cells (cap - (sLen + n)), ?_, hcut, ?_, ?_⟩
            · have hroom' := next_room (bytes := i.bytes) (Nat.le_of_lt (Nat.lt_of_not_le hcap)) h1 hroom
              rw [app_out ok hsT hxT hnz hi hlen hcap hby hroom', appOut]
              simp only [Sem.run_bind, run_choose, Question.forced, Bool.false_eq_true, if_false, Result.andThen_ok, run_askRoom]
              have hdr : ({ w with drawn := w.drawn + 1 } : World) = w.drew := rfl
              rw [hdr, hq]
              simp only [Result.andThen_ok, hos, hvs1, hzv, newRow, Sem.run_bind, run_newObj, Sem.run_pure]
              rfl
            · simp only [Array.size_append, List.size_toArray, Builtin.zeroCells, Array.size_map, Array.size_range, hzs]
              have := hvs2.len
              rw [hosl, ← this, hys, ← Nat.add_mul, ← Nat.add_mul]
              exact Nat.mul_le_mul_right _ (by omega)
            · intro j q hj
              have hlt : j < (os ++ vs).length := by
                rcases Nat.lt_or_ge j (os ++ vs).length with h' | h'
                · exact h'
                · rw [List.getElem?_eq_none h'] at hj; cases hj
              rw [Array.getElem?_append_left (by simpa using hlt)]
              simpa using hj
          cases d with
          | nul =>
            have hu0 := vr_nul hu
            simp only at hs
            split at hs
            · rename_i hn
              cases hs
              subst hu0; subst hn
              have hus0 : us = [] := by have := hus2.len; rw [hys] at this; simp at this; exact List.length_eq_zero_iff.1 this.symm
              subst hus0
              refine ⟨.slice none 0 0, w, β, ?_, Nx.same h, .im _ _ .nul⟩
              rw [app_in ok hsT hxT hnz hi hlen (by omega), appIn]
              simp only [Sem.run_bind, hus1, Result.andThen_ok, Sem.run_pure]
            · rename_i hn
              split at hs
              · rename_i hroom
                cases hs
                obtain ⟨cap, cs, h1, h2, h3, h4⟩ := grow none 0 0 [] hu0 (by omega) (by rw [hu0]; simp [Builtin.firstCells]) (by simp) (by omega) (by simpa using hroom)
                simp only [Nat.zero_add, List.nil_append] at h1 h2 h4
                obtain ⟨hx, hx1, hx2, hx3⟩ := Nx.push_mem (w' := w.drew.alloc (.cells cs el)) hS.sim true ys cs el (0, 0) rfl rfl rfl rfl (by
                  rw [hys]; exact Nat.le_trans (Nat.mul_le_mul_right _ h2) h3) (FrOk.zero _) (fun j q hq => by
                    obtain ⟨y, hy1, hy2, hy3⟩ := hvs2.at_ hq
                    exact ⟨y, h4 j y hy1, hy2, hy3⟩)
                exact ⟨_, _, _, h1, hS.trans hx, win_fresh hx2 hx3 hx1 h2 h3⟩
              · cases hs
          | win k ver off len sz =>
            simp only at hs
            split at hs
            · rename_i c hm
              split at hs
              · cases hs
              · rename_i hsz
                simp only [not_or, Nat.not_lt] at hsz
                obtain ⟨hsz, hcl⟩ := hsz
                have hsz : sz = i.size := Decidable.not_not.1 hsz
                obtain ⟨a, cap, rfl, hc, hk, _, hat⟩ := vr_win hu
                obtain ⟨b, base, sz', hb, hrs, had⟩ := hat (mem_spec hm).2
                split at hs
                · rename_i hn
                  cases hs
                  subst hn
                  have hus0 : us = [] := by have := hus2.len; rw [hys] at this; simp at this; exact List.length_eq_zero_iff.1 this.symm
                  subst hus0
                  refine ⟨.slice (some a) len cap, w, β, ?_, Nx.same h, hu⟩
                  rw [app_in ok hsT hxT hnz hi hlen (by omega), appIn]
                  simp only [Sem.run_bind, hus1, Result.andThen_ok, Sem.run_pure]
                  rfl
                · rename_i hn
                  split at hs
                  · rename_i hroom
                    obtain ⟨hroom, hcw⟩ := hroom
                    cases hs
                    subst hsz
                    have hclen : ((c.take (off + len * i.size)).drop off).length = len * i.size := by simp; omega
                    obtain ⟨cs0, el0, fr0, r1, r2, r3, r4⟩ := h.row hm hb
                    by_cases hcap : len + n ≤ cap
                    · -- in its place
                      have had' : a = ⟨b, base + off, none⟩ ∧ base + off + cap * i.size ≤ sz' := by
                        rcases had with h0 | h0
                        · omega
                        · exact h0
                      obtain ⟨rfl, hfit⟩ := had'
                      have hsz' : cs0.size = sz' := by simp only [rowSize, r1] at hrs; cases hrs; rfl
                      have husl : us.length = n * i.size := by rw [← hus2.len, hys]
                      have hfit2 : (len + n) * i.size ≤ cap * i.size := Nat.mul_le_mul_right _ hcap
                      rw [Nat.add_mul] at hfit2
                      have hrun := run_storeRow (P := P) us 0 (base + off + len * i.size) w cs0 r1 (by omega) r3.2 hus2.one
                      have hadd : (⟨b, base + off, none⟩ : Addr).add (len * i.size) = ⟨b, base + off + len * i.size, none⟩ := by
                        unfold Addr.add; split
                        · rename_i e; rw [e]; rfl
                        · rfl
                      have hne : us ≠ [] ∨ us = [] := by cases us <;> simp
                      have hkey : (storeCells ⟨b, base + off + len * i.size, none⟩ us).run P w = .ok () (wput w b (.cells (setV cs0 (base + off + len * i.size) us) el0 fr0)) := by
                        rw [hrun]
                        cases us with
                        | nil =>
                          simp only [setV]
                          have hb' : b < w.heap.size := h.lt k b base hb
                          congr 1
                          simp only [wput]
                          have : w.heap.setIfInBounds b (.cells cs0 el0 fr0) = w.heap := by
                            apply Array.ext_getElem?
                            intro j
                            by_cases hj : b = j
                            · subst hj; rw [Array.getElem?_setIfInBounds_self_of_lt hb', r1]
                            · rw [Array.getElem?_setIfInBounds_ne hj]
                          rw [this]
                        | cons _ _ => simp
                      have hx := Nx.write (a' := true) (ver' := ver + 1) (c' := (c.take (off + len * i.size)).drop off ++ ys) (base' := base + off) h hm hb (canW_ro hcw) (by omega) (fun e => by omega) r1
                        (setV_size us cs0 (base + off + len * i.size)) (by rw [List.length_append, hclen, hys]; omega) (fun j q hq => by
                          rw [setV_get _ _ _ _ (by omega)]
                          rw [List.getElem?_append] at hq
                          split at hq
                          · rename_i hj
                            rw [hclen] at hj
                            rw [if_neg (by omega)]
                            rw [List.getElem?_drop, List.getElem?_take] at hq
                            split at hq
                            · have := r4 _ q hq
                              rwa [show base + (off + j) = base + off + j by omega] at this
                            · cases hq
                          · rename_i hj
                            rw [hclen] at hj hq
                            obtain ⟨y, hy1, hy2, hy3⟩ := hus2.at_ hq
                            have hjl : j - len * i.size < us.length := by
                              rcases Nat.lt_or_ge (j - len * i.size) us.length with h' | h'
                              · exact h'
                              · rw [List.getElem?_eq_none h'] at hy1; cases hy1
                            rw [if_pos (by omega)]
                            exact ⟨y, by rw [← hy1]; congr 1; omega, hy2, hy3⟩)
                      have hkl : k < st.bs.length := h.dom k b base hb
                      refine ⟨.slice (some ⟨b, base + off, none⟩) (len + n) cap, _, _, ?_, hx, ?_⟩
                      · rw [app_in ok hsT hxT hnz hi hlen hcap, appIn]
                        simp only [Sem.run_bind, hus1, Result.andThen_ok, Sem.run_pure, hadd, hkey]
                      · refine .win k (ver + 1) 0 (len + n) i.size _ cap hcap ⟨_, by simp [St.x]; rfl⟩ (fun q hq => ?_) fun _ => ⟨b, base + off, cs0.size, by simp [St.x], ?_, .inr ⟨rfl, by omega⟩⟩
                        · simp [St.x, St.ver, hkl, boxVer] at hq; omega
                        · have hb' : b < w.heap.size := h.lt k b base hb
                          simp only [rowSize, wput]
                          rw [Array.getElem?_setIfInBounds_self_of_lt hb']
                          simp [setV_size]
                    · -- a new row
                      have hold : ∃ os : List Value, (Builtin.firstCells i.size len (.slice (some a) len cap)).run P w.drew = .ok os.toArray w.drew ∧ LR w.drew (st.x β Z) ((c.take (off + len * i.size)).drop off) os := by
                        have hrow' : rowD st (.win k ver off len i.size) = some (len, (c.drop off).take (len * i.size)) := by
                          simp [rowD, hm, hcl]
                        have := (row_ok (P := P) hS.sim (hu.mono hS.keeps) hrow').2 i.size len (Nat.le_refl _) (by simp; omega)
                        obtain ⟨os, ho1, ho2⟩ := this
                        refine ⟨os, ho1, ?_⟩
                        rw [List.take_take, Nat.min_self] at ho2
                        rwa [List.drop_take, Nat.add_sub_cancel_left]
                      obtain ⟨os, ho1, ho2⟩ := hold
                      have hosl : os.length = len * i.size := by rw [← ho2.len, hclen]
                      obtain ⟨cap', cs, h1, h2, h3, h4⟩ := grow (some a) len cap os rfl hcap ho1 hosl (by omega) hroom
                      have hlr := ho2.append hvs2
                      have hx := Nx.move (w' := w.drew.alloc (.cells cs el)) (a' := true) (c' := (c.take (off + len * i.size)).drop off ++ ys) hS.sim hm hb (canW_ro hcw) rfl rfl rfl rfl (by
                        rw [List.length_append, hclen, hys, ← Nat.add_mul]; exact Nat.le_trans (Nat.mul_le_mul_right _ h2) h3) (fun j q hq => by
                          obtain ⟨y, hy1, hy2, hy3⟩ := hlr.at_ hq
                          exact ⟨y, h4 j y hy1, hy2, hy3⟩)
                      have hkl : k < st.bs.length := h.dom k b base hb
                      refine ⟨_, _, _, h1, hS.trans hx, ?_⟩
                      refine .win k (ver + 1) 0 (len + n) i.size _ cap' h2 ⟨_, by simp [St.x]; rfl⟩ (fun q hq => ?_) fun _ => ⟨w.heap.size, 0, cs.size, by simp [St.x], rowSize_alloc w.drew cs el (0, 0), .inr ⟨rfl, by omega⟩⟩
                      simp [St.x, St.ver, hkl, boxVer] at hq; omega
                  · cases hs
            · cases hs
          | _ => cases hs
    · cases hs
  · cases hs
end
end Go.V
