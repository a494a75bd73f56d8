/- UtfAll, for arguments of bulk at most 1048576: it answers true. -/
import Derived.Test.YtlljdbhefepheaaUh
import Derived.Test.YtlljdbhefepheaaWd
import Derived.Test.YtlljdbhefepheaaRows
import Derived.Test.YtlljdbhefepheaaBulk
import Derived.WalkKit
import Derived.ProofKit
import Derived.OpenShut
import Derived.JoinedCond
import Derived.ChangeOld
namespace Go.Proofs.Ytlljdbhefepheaa.utfAll
open Go.ChangeShapes Go.WideShapes Go.ChangeAt Go.RowKit Go.V
set_option maxRecDepth 100000
set_option maxHeartbeats 4000000
set_option linter.unusedSimpArgs false
set_option linter.unusedVariables false

theorem law {st : St} {x : D} {b : List UInt8} (hb : Bytes st x b) (hlen : b.length ≤ 1048576) : Ev pv 4 [x] st (.bool true) st := by
  refine Ev.mk1 rfl fi4 rfl rfl rfl ?_
  dsimp only [List.cons_append, List.nil_append, List.length, Nat.reduceSub, Nat.reduceAdd, List.replicate_succ, List.replicate_zero]
  have hx := hb.ref
  have hb1 := hb.enter .ro
  have hbl := byteCells_len b
  have hroom := roomy_ev (m := 0x90) hb1 hlen
  have hF := bytesV_ok (enterSt .ro st) (b ++ List.replicate 80 0x90)
  try change EvC _ _ _ _ _
  repeat refine EvC.seq ?_
  try generalize hK : SeqQ _ _ _ = K
  refine EvC.reg ?_
  repeat (first | refine EvO.T rfl rfl rfl rfl ?_ | refine EvO.L rfl rfl rfl rfl ?_ | refine EvO.N rfl rfl rfl ?_ | refine EvO.offT rfl rfl ?_ | refine EvO.offL rfl rfl ?_)
  refine EvO.nil ?_
  dsimp only [Fr.putO, Fr.put, Fr.clean, Fr.ev, Fr.get, nth, Go.V.look, List.set_cons_succ, List.set_cons_zero, ofVal_int, ofVal_bool, ofVal_str, ofVal_nul, ofVal_pnil, ofVal_nilfn, ofVal_nilif, List.length, List.cons_append, List.nil_append, List.append_nil, Nat.reduceSub, Nat.reduceAdd, List.map, List.map_cons, List.map_nil]
  try subst hK
  try change EvC _ _ _ _ _
  try change EvC _ _ _ _ _
  repeat refine EvC.seq ?_
  try generalize hK : SeqQ _ _ _ = K
  refine EvC.reg ?_
  (first | refine EvO.T rfl rfl rfl rfl ?_ | refine EvO.L rfl rfl rfl rfl ?_ | refine EvO.N rfl rfl rfl ?_ | refine EvO.offT rfl rfl ?_ | refine EvO.offL rfl rfl ?_)
  refine EvO.callT rfl rfl rfl hroom ?_
  repeat (first | refine EvO.T rfl rfl rfl rfl ?_ | refine EvO.L rfl rfl rfl rfl ?_ | refine EvO.N rfl rfl rfl ?_ | refine EvO.offT rfl rfl ?_ | refine EvO.offL rfl rfl ?_)
  refine EvO.nil ?_
  dsimp only [Fr.putO, Fr.put, Fr.clean, Fr.ev, Fr.get, nth, Go.V.look, List.set_cons_succ, List.set_cons_zero, ofVal_int, ofVal_bool, ofVal_str, ofVal_nul, ofVal_pnil, ofVal_nilfn, ofVal_nilif, List.length, List.cons_append, List.nil_append, List.append_nil, Nat.reduceSub, Nat.reduceAdd, List.map, List.map_cons, List.map_nil]
  try subst hK
  try change EvC _ _ _ _ _
  try change EvC _ _ _ _ _
  repeat refine EvC.seq ?_
  try generalize hK : SeqQ _ _ _ = K
  refine EvC.reg ?_
  (first | refine EvO.T rfl rfl rfl rfl ?_ | refine EvO.L rfl rfl rfl rfl ?_ | refine EvO.N rfl rfl rfl ?_ | refine EvO.offT rfl rfl ?_ | refine EvO.offL rfl rfl ?_)
  (first | refine EvO.T rfl rfl rfl rfl ?_ | refine EvO.L rfl rfl rfl rfl ?_ | refine EvO.N rfl rfl rfl ?_ | refine EvO.offT rfl rfl ?_ | refine EvO.offL rfl rfl ?_)
  refine EvO.len rfl rfl rfl hb1 rfl ?_
  refine EvO.slice rfl rfl rfl hF rfl rfl (l := 0) (r := b.length) ?_ ⟨by omega, by rw [byteCells_len]; simp⟩ fun y2 hy3 hyr2 => ?_
  · show boundsD _ none (some (.int .i64 ((byteCells b).length : Nat))) = _
    rw [hbl, byteCells_len]
    simp only [boundsD, optBound, boundD, Option.bind_some]
    rw [if_pos ⟨by omega, by simp <;> omega⟩]; rfl
  have hy4 : Bytes (enterSt .ro st) y2 b := by
    have : ((byteCells (b ++ List.replicate 80 0x90)).take b.length).drop 0 = byteCells b := by
      rw [← hbl]; simp [byteCells]
    unfold Bytes; rw [← this]; exact hy3
  refine EvO.callT rfl rfl rfl (all_ev hy4 hlen) ?_
  (first | refine EvO.T rfl rfl rfl rfl ?_ | refine EvO.L rfl rfl rfl rfl ?_ | refine EvO.N rfl rfl rfl ?_ | refine EvO.offT rfl rfl ?_ | refine EvO.offL rfl rfl ?_)
  refine EvO.callT rfl rfl rfl (rall_ev hb1 hlen) ?_
  have hal : (allS b).length ≤ b.length := by
    have key : ∀ n (b : List UInt8), (allF n b).length ≤ n := by
      intro n
      induction n with
      | zero => intro b; simp [allF]
      | succ n ih => intro b; cases b <;> simp [allF]; exact ih _
    exact key _ _
  refine EvO.callT rfl rfl rfl (same_got (gots_rows _ _) (gots_rows _ _) (by omega)) ?_
  (first | refine EvO.T rfl rfl rfl rfl ?_ | refine EvO.L rfl rfl rfl rfl ?_ | refine EvO.N rfl rfl rfl ?_ | refine EvO.offT rfl rfl ?_ | refine EvO.offL rfl rfl ?_)
  (first | refine EvO.T rfl rfl rfl rfl ?_ | refine EvO.L rfl rfl rfl rfl ?_ | refine EvO.N rfl rfl rfl ?_ | refine EvO.offT rfl rfl ?_ | refine EvO.offL rfl rfl ?_)
  (first | refine EvO.T rfl rfl rfl rfl ?_ | refine EvO.L rfl rfl rfl rfl ?_ | refine EvO.N rfl rfl rfl ?_ | refine EvO.offT rfl rfl ?_ | refine EvO.offL rfl rfl ?_)
  refine EvO.callT rfl rfl rfl (intact_ev hF hb1 hlen) ?_
  (first | refine EvO.T rfl rfl rfl rfl ?_ | refine EvO.L rfl rfl rfl rfl ?_ | refine EvO.N rfl rfl rfl ?_ | refine EvO.offT rfl rfl ?_ | refine EvO.offL rfl rfl ?_)
  (first | refine EvO.T rfl rfl rfl rfl ?_ | refine EvO.L rfl rfl rfl rfl ?_ | refine EvO.N rfl rfl rfl ?_ | refine EvO.offT rfl rfl ?_ | refine EvO.offL rfl rfl ?_)
  refine EvO.callT rfl rfl rfl (Ev.prim rfl rfl) ?_
  repeat (first | refine EvO.T rfl rfl rfl rfl ?_ | refine EvO.L rfl rfl rfl rfl ?_ | refine EvO.N rfl rfl rfl ?_ | refine EvO.offT rfl rfl ?_ | refine EvO.offL rfl rfl ?_)
  refine EvO.nil ?_
  dsimp only [Fr.putO, Fr.put, Fr.clean, Fr.ev, Fr.get, nth, Go.V.look, List.set_cons_succ, List.set_cons_zero, ofVal_int, ofVal_bool, ofVal_str, ofVal_nul, ofVal_pnil, ofVal_nilfn, ofVal_nilif, List.length, List.cons_append, List.nil_append, List.append_nil, Nat.reduceSub, Nat.reduceAdd, List.map, List.map_cons, List.map_nil]
  try subst hK
  try change EvC _ _ _ _ _
  refine EvC.ret ⟨fun i h => (by cases h), _, rfl, leave_same (by simp) (by simp [enterSt]) ?_⟩
  rfl

theorem own : ownKnob Try.prog.godebug = none := by kernel_rfl
theorem laidOut : laidOutB Try.prog = true := by kernel_rfl

theorem lifted (os : Os) (started : os.Started) (H : Type) (enc : TypeId × Value → H) (F : Stop.Interp) :
    ReturnsInHanded {} Try.checked os 4 .any ((Rows.OpenSpec.upto Rows.utfAllSpec).pre6 enc Try.prog Try.f4 Rows.utfAllUptoRow.domain false) (((Rows.OpenSpec.upto Rows.utfAllSpec).at F).post enc Try.prog Try.f4 false true false false) := by
  refine returnsInHanded_of_cond (C := Try.checked) (s := Rows.OpenSpec.upto Rows.utfAllSpec) (k := Rows.uptoSmall) rfl own started (by kernel_rfl) Try.func4
    (OpenSpec.witness (enc := enc) (C := Try.checked) (s := Rows.OpenSpec.upto Rows.utfAllSpec) (k := Rows.uptoSmall) rfl false ⟨#[], #[.slice none 0 0], []⟩ 8 (by kernel_rfl) (by kernel_rfl) (by kernel_rfl)
      (x := ([.nil], [], [])) (by kernel_rfl) rfl (by kernel_rfl)) ?_
  intro W base args ds gs before hval hW _ hk _
  have hW' := hW
  obtain ⟨p, q, hA0, hV, rfl, hfz, hnd⟩ := hW
  have hA : DataW.TrodAll enc Try.prog W 0 (fun _ => true) true Try.f4.params.toList args.toList ds p := hA0
  rw [Try.params4] at hA hval
  obtain ⟨v0, vs0, d0, ds0, p0, q0, hargs, rfl, rfl, h0, r0⟩ := trodAll_cons hA
  obtain ⟨rfl, rfl, rfl⟩ := trodAll_nil r0
  obtain rfl : args = #[v0] := by cases args; simp_all
  obtain ⟨rfl, rfl⟩ := trodVars_none hV
  simp only [Rows.uptoSmall, List.append_nil, List.nil_append, List.singleton_append, List.cons_append, decide_eq_true_eq, Rows.uptoBulkAll] at hk
  have i0 := trod_ir h0 (n := 12) (by kernel_rfl) (hval 0 29 v0 rfl rfl)
  have k0 := h0
  have lt0 : ∀ x ∈ p0, x.block < W.heap.size := by obtain ⟨m, hm⟩ := k0; exact DataW.trod_lt m _ _ _ hm
  obtain ⟨b0, hb0, hs0⟩ := arg_bytes h0 Try.underlying29 Try.underlying5
  have l0 : b0.length ≤ Rows.uptoBulk d0 := by rcases hs0 with ⟨rfl, rfl⟩ | ⟨es, rest, rfl, he⟩ <;> simp only [Rows.uptoBulk, List.length_nil] <;> first | omega | (have := bulk_len es; omega)
  have hlaw : Ev pv 4 [dval d0] ⟨[], 0, 0⟩ (.bool true) ⟨[], 0, 0⟩ := by
    exact law (hb0 _) (by omega)
  have hir : ∀ (i : Nat) c v, [dval d0][i]? = some c → [v0][i]? = some v → IR W (fun b => b < W.heap.size) c v := by
    intro i c v hc hv
    match i, hc, hv with
    | 0, hc, hv => cases hc; cases hv; exact i0
  clear hA0
  refine (law_calls view hlaw (us := [v0]) rfl hir).mono fun e W' ⟨he, bel⟩ => ?_
  subst he
  exact ⟨_, rfl, _, _, _, [], _, [], hW', trodAll_mk1 (shut_bool Try.underlying4 _), (trodAll_cons_mk (Below.trod laidOut (by kernel_rfl) (of_decide_eq_true (by kernel_rfl)) k0 bel lt0) trodAll_mk0), rfl, bel.frame _, fun h => by cases h⟩

theorem proved : Rows.UtfAllUptoSaid :=
  OpenClaim.holds_of_cond 4 Try.f4 rfl rfl rfl rfl rfl rfl rfl ⟨rfl, rfl, rfl, rfl, rfl⟩ rfl rfl rfl rfl rfl (by kernel_rfl) Try.func4 (by kernel_rfl)
    (of_decide_eq_true (by kernel_rfl)) (by unfold Func.isWrapper; first | (rw [if_pos (by decide +kernel)]; kernel_rfl) | (rw [if_neg (by decide +kernel)]; exact ⟨rfl, rfl⟩))
    (fun os started H enc _ F => lifted os started H enc F)
end Go.Proofs.Ytlljdbhefepheaa.utfAll
#print axioms Go.Proofs.Ytlljdbhefepheaa.utfAll.proved
