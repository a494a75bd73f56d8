/- own -/
import Derived.Test.YtopaaegigcfkeaaGreatProg
import Derived.WalkKit
import Derived.BigCall
import Derived.BigQuiet
import Derived.BigRegion
import Derived.Test.YtopaaegigcfkeaaGreatTPv
import Derived.Test.YtopaaegigcfkeaaGreatTM2
set_option linter.unusedSimpArgs false
set_option linter.unusedVariables false
namespace Go.Proofs.YtopaaegigcfkeaaGreat
open Go.RowKit
set_option maxHeartbeats 1000000 in
set_option maxRecDepth 100000 in
theorem mail_walk (w : World) : Calls Tryz.prog 64 #[.int .i64 4] w fun e w' =>
    e = .returned (.tuple #[.pointer (some ⟨w.heap.size + 1, 0, none⟩), .int .i64 0]) ∧ w' = (w.alloc (.chan 4 #[] false 0 0 false)).alloc (.cells #[.chan (some w.heap.size), .bool false] 249) := by
  have hu : Tryz.prog.underlying 247 = some (.chan .both 29) := by kernel_rfl
  have hb : (Tryz.prog.info? 29).map (·.bytes) = some 40 := by kernel_rfl
  obtain ⟨i, hi, hb⟩ := Option.map_eq_some_iff.1 hb
  have mk : (Instr.makeChan 247 (.int .i64 4)).run Tryz.prog w = .ok (.chan (some w.heap.size)) (w.alloc (.chan 4 #[] false 0 0 false)) := by
    simp [Instr.makeChan, asInt, asIntOf, run_underlying hu, typeInfo, hi, hb, IntKind.max, IntKind.bits, IntKind.signed]
  go_enter Tryz.func64, Tryz.ntmps64
  go_wp2_with (simp only [mk])
  go_ret2
  exact ⟨rfl, rfl⟩
open Go.V Go Go.RowKit
def mailP : List D → St → Option (D × St)
  | [.int .i64 n], st => if n = 4 then some (.tup [.ptr st.bs.length 0 0, .int .i64 0], st.push (.mem 0 false [.junk, .bool false])) else none
  | _, _ => none
theorem mailP_some {ds : List D} {st : St} {r : D × St} (h : mailP ds st = some r) : ds = [.int .i64 4] ∧ r = (.tup [.ptr st.bs.length 0 0, .int .i64 0], st.push (.mem 0 false [.junk, .bool false])) := by
  unfold mailP at h
  split at h
  · split at h
    · rename_i hn; subst hn; cases h; exact ⟨rfl, rfl⟩
    · cases h
  · cases h
theorem Nx.quiet {w w' : World} {st : St} {β : Nat → Option (Nat × Nat)} {Z : Nat → Prop} (h : Sim w st β Z) (hb : Below w.heap.size w w') : Nx w st β Z w' st β Z := by
  have hq : Quiet w w' := fun b hb' => hb.block b hb'
  have hk : Keeps w (st.x β Z) w' (st.x β Z) :=
    ⟨fun _ p hp => ⟨p, hp⟩, fun b hb => ⟨hb, hq b (h.zl b hb)⟩, fun _ c _ _ hc => ⟨c, hc, Nat.le_refl _⟩, fun k _ _ _ b base hb => ⟨hb, rowSize_eq (hq b (h.lt k b base hb))⟩⟩
  exact ⟨⟨h.dom, fun k b base hb' => Nat.lt_of_lt_of_le (h.lt k b base hb') hb.size, h.inj, h.zd, fun b hb' => Nat.lt_of_lt_of_le (h.zl b hb') hb.size, fun k b base bx hb' hbx => (h.box k b base bx hb' hbx).keep hk (hq b (h.lt k b base hb')), h.flr, h.ro⟩, hk,
    ⟨hb.os, hb.tape, hb.output, hb.size, fun b hb' _ => hq b hb'⟩, fun _ _ base hb => .inl ⟨base, hb⟩, fun _ hz => .inl hz, Nat.le_refl _, rfl, rfl, fun _ _ => ⟨rfl, rfl⟩, fun _ _ h => ⟨h, rfl⟩⟩
theorem mailP_ok {pv : Pv} : PrimOk Tryz.prog pv 64 mailP := by
  refine ⟨fun ds st r hp => ⟨Tryz.f64, _, Tryz.func64, rfl, by decide⟩, fun ds st d st' hp w β Z us hsim hle ha => ?_, fun ds st d st' hp _ => ?_, fun ds st d st' hp => ?_⟩
  · obtain ⟨rfl, hr⟩ := mailP_some hp
    cases hr
    obtain ⟨u, rfl⟩ : ∃ u, us = [u] := by
      match us, hle with
      | [u], _ => exact ⟨u, rfl⟩
    have h0 := vr_int (ha 0 _ u rfl rfl)
    subst h0
    have hq : Nx w st β Z (w.alloc (.chan 4 #[] false 0 0 false)) st β Z := Nx.quiet hsim ⟨rfl, rfl, rfl, by show w.heap.size ≤ (w.heap.push _).size; simp, fun j hj => by
      show (w.heap.push _)[j]? = _
      rw [Array.getElem?_push, if_neg (by omega)]⟩
    obtain ⟨hx, x1, x2, x3⟩ := Nx.push_mem (w' := (w.alloc (.chan 4 #[] false 0 0 false)).alloc (.cells #[.chan (some w.heap.size), .bool false] 249)) hq.sim false [.junk, .bool false] #[.chan (some w.heap.size), .bool false] 249 (0, 0) rfl rfl rfl rfl (by simp) (FrOk.zero _) (fun j d hd => by
      match j, hd with
      | 0, hd => cases hd; exact ⟨_, rfl, rfl, .im _ _ (.junk _)⟩
      | 1, hd => cases hd; exact ⟨_, rfl, rfl, .im _ _ (.bool _)⟩)
    have hsz : (w.alloc (.chan 4 #[] false 0 0 false)).heap.size = w.heap.size + 1 := by show (w.heap.push _).size = _; simp
    rw [hsz] at hx x3
    refine (mail_walk w).mono fun e w' ⟨he, hw⟩ => ?_
    subst hw
    refine ⟨_, _, Z, he, hq.trans hx, .tup _ [.pointer (some ⟨w.heap.size + 1, 0, none⟩), .int .i64 0] rfl fun q c v hc hv => ?_, fun _ b hb => ?_⟩
    · match q, hc, hv with
      | 0, hc, hv => cases hc; cases hv; exact .ptr _ _ _ _ ⟨_, x3⟩ (fun c _ => Nat.zero_le _) fun _ => ⟨w.heap.size + 1, 0, x3, rfl⟩
      | 1, hc, hv => cases hc; cases hv; exact .im _ _ (.int _ _)
    · show ((w.heap.push _).push _)[b]? = _
      rw [Array.getElem?_push, if_neg (by simp; omega), Array.getElem?_push, if_neg (by omega)]
  · obtain ⟨rfl, hr⟩ := mailP_some hp
    cases hr; exact .push _ _
  · obtain ⟨rfl, hr⟩ := mailP_some hp
    cases hr; exact .push _ _
end Go.Proofs.YtopaaegigcfkeaaGreat
