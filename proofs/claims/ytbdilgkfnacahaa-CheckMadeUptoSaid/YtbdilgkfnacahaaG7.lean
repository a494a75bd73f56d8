/-
 The parser of patterns: what stands at a rune; errors.
-/
import Derived.Test.YtbdilgkfnacahaaG6
import Derived.Test.YtbdilgkfnacahaaM2
import Derived.Test.YtbdilgkfnacahaaG5
import Derived.Test.YtbdilgkfnacahaaG4
set_option maxRecDepth 100000
set_option maxHeartbeats 4000000
set_option linter.unusedSimpArgs false
set_option linter.unusedVariables false
namespace Go.Proofs.Ytbdilgkfnacahaa
open Go.V Go
def oneS (b : List UInt8) : Nat × Nat := if (firstS b).2.1 = 0 then (65533, 1) else ((firstS b).1, (firstS b).2.1)
def allF : Nat → List UInt8 → List (Nat × Nat)
 | 0, _ => []
 | _ + 1, [] => []
 | n + 1, b => oneS b :: allF n (b.drop (oneS b).2)
def allS (b : List UInt8) : List (Nat × Nat) := allF b.length b
theorem oneS_pos (b : List UInt8) : 1 ≤ (oneS b).2 := by
 unfold oneS; split
 ·simp
 ·simp only; omega
theorem allF_more : ∀ (n : Nat) (b : List UInt8), b.length ≤ n → allF n b = allS b
 | 0, [], _ => rfl
 | 0, _ :: _, h => by simp at h
 | n + 1, [], _ => rfl
 | n + 1, c :: b, h => by
  have hp := oneS_pos (c :: b);have h1 : ((c :: b).drop (oneS (c :: b)).2).length ≤ b.length := by rw [List.length_drop]; simp only [List.length_cons]; omega
  simp only [List.length_cons] at h;show oneS (c :: b) :: allF n ((c :: b).drop _) = oneS (c :: b) :: allF b.length ((c :: b).drop _);rw [allF_more n _ (by omega)]
  rcases Nat.lt_or_ge n b.length with h2 | h2
  ·omega
  ·rw [allF_more b.length _ h1]
termination_by n b => b.length
decreasing_by all_goals (simp_wf; omega)
theorem allS_nil : allS [] = [] := rfl
theorem allS_cons {b : List UInt8} (h : b ≠ []) : allS b = oneS b :: allS (b.drop (oneS b).2) := by
 match b, h with
 | c :: b, _ =>
  show oneS (c :: b) :: allF b.length ((c :: b).drop _) = _;rw [allF_more];have hp := oneS_pos (c :: b);rw [List.length_drop]; simp only [List.length_cons]; omega
def gotC (g : Nat × Nat) : List D := [.int .i32 (g.1 : Nat), .int .i64 (g.2 : Nat)]
def gotsD (l : List (Nat × Nat)) : D := .sl ((l.map gotC).map (elD 2))
theorem gotC_len {l : List (Nat × Nat)} : ∀ e ∈ l.map gotC, e.length = 2 := by
 intro e he; obtain ⟨g, _, rfl⟩ := List.mem_map.1 he; rfl
theorem gotC_plain {l : List (Nat × Nat)} : ∀ e ∈ l.map gotC, ∀ d ∈ e, plainC d = true := by
 intro e he d hd; obtain ⟨g, _, rfl⟩ := List.mem_map.1 he;simp only [gotC, List.mem_cons, List.not_mem_nil, or_false] at hd
 rcases hd with rfl | rfl <;> rfl
theorem gots_rows (st : St) (l : List (Nat × Nat)) : V.Rows st 2 (gotsD l) (l.map gotC) := Rows.ofFrozen gotC_len gotC_plain
theorem scanS_le : ∀ (left n r lo hi : Nat) (b : List UInt8), (scanS left n r lo hi b).2.1 ≠ 0 → (scanS left n r lo hi b).2.1 = n ∧ left ≤ b.length
 | 0, n, r, lo, hi, b, h => by simp [scanS]
 | left + 1, n, r, lo, hi, [], h => by simp [scanS] at h
 | left + 1, n, r, lo, hi, x :: xs, h => by
  simp only [scanS] at h ⊢
  split at h
  ·simp at h
  ·rename_i hc;rw [if_neg hc];have := scanS_le left n _ _ _ xs h;exact ⟨this.1, by simp; omega⟩
theorem oneS_le {b : List UInt8} (h : b ≠ []) : (oneS b).2 ≤ b.length := by
 match b, h with
 | c :: xs, _ =>
  unfold oneS
  split
  ·simp
  ·rename_i hz;simp only [firstS] at hz ⊢
   split at hz
   ·simp at hz
   ·rename_i hk;rw [if_neg hk];have := scanS_le _ _ _ _ _ _ hz;rw [this.1]; simp; omega
theorem all_ev {st : St} {x : D} {b : List UInt8} (hb : Bytes st x b) (hlen : b.length ≤ 1048576) : Ev pv 53 [x] st (gotsD (allS b)) st := by
 refine Ev.mk1 rfl fi53 rfl rfl rfl ?_;dsimp only [u3, u4, List.length, Nat.reduceSub, Nat.reduceAdd, w1, w2];have hx := hb.ref;(try refine qy ?_);(repeat refine qq ?_);(try generalize hK : SeqQ _ _ _ _ = K);refine EvC.reg ?_;(repeat (first | refine EvO.T rfl rfl rfl rfl ?_ | refine EvO.L rfl rfl rfl rfl ?_ | refine EvO.N rfl rfl rfl ?_ | refine EvO.offT rfl rfl ?_ | refine EvO.offL rfl rfl ?_));refine EvO.nil ?_;(try dsimp only [Fr.putO, Fr.put, Fr.clean, Fr.ev, Fr.get, nth, V.look, u1, u2, v1, v2, v3, v4, v5, v6, v7, List.length, u3, u4, Nat.reduceSub, Nat.reduceAdd, List.map]);(try subst hK);(try refine qy ?_);(repeat refine qq ?_);(try generalize hK : SeqQ _ _ _ _ = K);refine EvC.reg ?_;(repeat (first | refine EvO.T rfl rfl rfl rfl ?_ | refine EvO.L rfl rfl rfl rfl ?_ | refine EvO.N rfl rfl rfl ?_ | refine EvO.offT rfl rfl ?_ | refine EvO.offL rfl rfl ?_));refine EvO.nil ?_;(try dsimp only [Fr.putO, Fr.put, Fr.clean, Fr.ev, Fr.get, nth, V.look, u1, u2, v1, v2, v3, v4, v5, v6, v7, List.length, u3, u4, Nat.reduceSub, Nat.reduceAdd, List.map]);(try subst hK);(try refine qy ?_);refine EvC.seq (EvC.block ?_)
 refine EvC.loop (fun j fr st' => ∃ (y out r n : D) (b' : List UInt8) (done : List (Nat × Nat)), fr.clean = ⟨6, [y, .tup [], .nul, out, r, n], []⟩ ∧ Ex st.bs.length (enterSt .ro st) st' ∧ Bytes st' y b' ∧ y.ref ≤ st.bs.length ∧
  Acc st.bs.length st' 2 out (done.map gotC) ∧ j = b'.length ∧ done ++ allS b' = allS b ∧ done.length + b'.length ≤ b.length) b.length
  ⟨x, .nul, _, _, b, [], rfl, Ex.refl _ _, hb.enter .ro, hx, .nul, rfl, rfl, by simp⟩ ?_
 rintro j fr st' ⟨y, out, r, n, b', done, hfr, hex, hy, hyr, hacc, rfl, hall, hl⟩;rw [hfr];(try refine qy ?_);(repeat refine qq ?_);(try generalize hK : SeqQ _ _ _ _ = K);refine EvC.reg ?_
 (first | refine EvO.T rfl rfl rfl rfl ?_ | refine EvO.L rfl rfl rfl rfl ?_ | refine EvO.N rfl rfl rfl ?_ | refine EvO.offT rfl rfl ?_ | refine EvO.offL rfl rfl ?_)
 refine EvO.len rfl rfl rfl hy rfl ?_;(repeat (first | refine EvO.T rfl rfl rfl rfl ?_ | refine EvO.L rfl rfl rfl rfl ?_ | refine EvO.N rfl rfl rfl ?_ | refine EvO.offT rfl rfl ?_ | refine EvO.offL rfl rfl ?_));refine EvO.nil ?_;(try dsimp only [Fr.putO, Fr.put, Fr.clean, Fr.ev, Fr.get, nth, V.look, u1, u2, v1, v2, v3, v4, v5, v6, v7, List.length, u3, u4, Nat.reduceSub, Nat.reduceAdd, List.map]);(try subst hK);(try refine qy ?_);rw [byteCells_len];(try refine qy ?_);(repeat refine qq ?_);refine qc (fun h1 => ?_) (fun h1 => ?_) <;> try simp only [cs] at h1
 ·refine EvC.skip ?_;have hb0 : b' ≠ [] := by rintro rfl; simp at h1
  (try refine qy ?_);(repeat refine qq ?_);refine EvC.block ?_;(try refine qy ?_);(repeat refine qq ?_);(try generalize hK : SeqQ _ _ _ _ = K);refine EvC.reg ?_
  (first | refine EvO.T rfl rfl rfl rfl ?_ | refine EvO.L rfl rfl rfl rfl ?_ | refine EvO.N rfl rfl rfl ?_ | refine EvO.offT rfl rfl ?_ | refine EvO.offL rfl rfl ?_)
  refine EvO.callT rfl rfl rfl (first_ev hy) ?_;(repeat (first | refine EvO.T rfl rfl rfl rfl ?_ | refine EvO.L rfl rfl rfl rfl ?_ | refine EvO.N rfl rfl rfl ?_ | refine EvO.offT rfl rfl ?_ | refine EvO.offL rfl rfl ?_));refine EvO.nil ?_;(try dsimp only [Fr.putO, Fr.put, Fr.clean, Fr.ev, Fr.get, nth, V.look, u1, u2, v1, v2, v3, v4, v5, v6, v7, List.length, u3, u4, Nat.reduceSub, Nat.reduceAdd, List.map]);(try subst hK);(try refine qy ?_);generalize hf : firstS b' = F at *;obtain ⟨r0, n0, bg⟩ := F;(try refine qy ?_);(repeat refine qq ?_);(try generalize hK : SeqQ _ _ _ _ = K);refine EvC.reg ?_;(repeat (first | refine EvO.T rfl rfl rfl rfl ?_ | refine EvO.L rfl rfl rfl rfl ?_ | refine EvO.N rfl rfl rfl ?_ | refine EvO.offT rfl rfl ?_ | refine EvO.offL rfl rfl ?_));refine EvO.nil ?_;(try dsimp only [Fr.putO, Fr.put, Fr.clean, Fr.ev, Fr.get, nth, V.look, u1, u2, v1, v2, v3, v4, v5, v6, v7, List.length, u3, u4, Nat.reduceSub, Nat.reduceAdd, List.map]);(try subst hK);(try refine qy ?_);generalize hK : SeqQ _ _ _ _ = K
  have H : ∀ m, K .next ⟨6, [y, .tup [], .nul, out, .int .i32 ((oneS b').1 : Nat), .int .i64 ((oneS b').2 : Nat)], m⟩ st' := by
   intro m;subst hK;generalize hg : oneS b' = g;have hp := oneS_pos b';have hle := oneS_le hb0;rw [hg] at hp hle;(try refine qy ?_);(repeat refine qq ?_);(try generalize hK : SeqQ _ _ _ _ = K);refine EvC.reg ?_
   (first | refine EvO.T rfl rfl rfl rfl ?_ | refine EvO.L rfl rfl rfl rfl ?_ | refine EvO.N rfl rfl rfl ?_ | refine EvO.offT rfl rfl ?_ | refine EvO.offL rfl rfl ?_)
   (first | refine EvO.T rfl rfl rfl rfl ?_ | refine EvO.L rfl rfl rfl rfl ?_ | refine EvO.N rfl rfl rfl ?_ | refine EvO.offT rfl rfl ?_ | refine EvO.offL rfl rfl ?_)
   (first | refine EvO.T rfl rfl rfl rfl ?_ | refine EvO.L rfl rfl rfl rfl ?_ | refine EvO.N rfl rfl rfl ?_ | refine EvO.offT rfl rfl ?_ | refine EvO.offL rfl rfl ?_)
   refine EvO.T rfl rfl rfl (d := .agg (gotC g)) (st1 := st') rfl ?_;refine EvO.T rfl rfl rfl (d := .win st'.bs.length 0 0 1 2) (st1 := st'.push (.mem 0 true (gotC g))) rfl ?_;have hN : st.bs.length ≤ st'.bs.length := hex.len;have hex1 := hex.trans (Ex.push hN (.mem 0 true (gotC g)));refine EvO.append rfl rfl rfl rfl (hacc.push _) (Rows.one rfl) rfl rfl rfl rfl rfl rfl rfl (by decide) hex1.len (by rw [hex1.flr]; exact Nat.le_refl _) (by rw [hex1.ro]; exact Nat.le_refl _) (by simp only [List.length_map, List.length_cons, List.length_nil]; show (done.length + 1) * 16 ≤ _; omega) fun out' st2 hacc2 hex2 _ _ _ => ?_;(repeat (first | refine EvO.T rfl rfl rfl rfl ?_ | refine EvO.L rfl rfl rfl rfl ?_ | refine EvO.N rfl rfl rfl ?_ | refine EvO.offT rfl rfl ?_ | refine EvO.offL rfl rfl ?_));refine EvO.nil ?_;(try dsimp only [Fr.putO, Fr.put, Fr.clean, Fr.ev, Fr.get, nth, V.look, u1, u2, v1, v2, v3, v4, v5, v6, v7, List.length, u3, u4, Nat.reduceSub, Nat.reduceAdd, List.map]);(try subst hK);(try refine qy ?_);have hex3 := hex1.trans hex2;have hy2 : Bytes st2 y b' := Rows.ex ((Ex.push hN _).trans hex2) hy hyr;(try refine qy ?_);(repeat refine qq ?_);(try generalize hK : SeqQ _ _ _ _ = K);refine EvC.reg ?_
   (first | refine EvO.T rfl rfl rfl rfl ?_ | refine EvO.L rfl rfl rfl rfl ?_ | refine EvO.N rfl rfl rfl ?_ | refine EvO.offT rfl rfl ?_ | refine EvO.offL rfl rfl ?_)
   (first | refine EvO.T rfl rfl rfl rfl ?_ | refine EvO.L rfl rfl rfl rfl ?_ | refine EvO.N rfl rfl rfl ?_ | refine EvO.offT rfl rfl ?_ | refine EvO.offL rfl rfl ?_)
   refine EvO.slice rfl rfl rfl hy2 rfl rfl (l := g.2) (r := b'.length) ?_ ⟨by omega, by rw [byteCells_len]; omega⟩ fun y2 hy3 hyr2 => ?_
   ·show boundsD (byteCells b').length (some (.int .i64 (g.2 : Nat))) none = _;rw [byteCells_len];simp only [boundsD, optBound, boundD, Option.bind_some];rw [if_pos ⟨by omega, by omega⟩]; rfl
   (repeat (first | refine EvO.T rfl rfl rfl rfl ?_ | refine EvO.L rfl rfl rfl rfl ?_ | refine EvO.N rfl rfl rfl ?_ | refine EvO.offT rfl rfl ?_ | refine EvO.offL rfl rfl ?_));refine EvO.nil ?_;(try dsimp only [Fr.putO, Fr.put, Fr.clean, Fr.ev, Fr.get, nth, V.look, u1, u2, v1, v2, v3, v4, v5, v6, v7, List.length, u3, u4, Nat.reduceSub, Nat.reduceAdd, List.map]);(try subst hK);(try refine qy ?_);refine ⟨(b'.drop g.2).length, by rw [List.length_drop]; omega, y2, out', _, _, b'.drop g.2, done ++ [g], rfl, hex3, ?_, Nat.le_trans hyr2 hyr, ?_, rfl, ?_, ?_⟩
   ·have : ((byteCells b').take b'.length).drop g.2 = byteCells (b'.drop g.2) := by
     rw [← byteCells_len, List.take_length]; simp [byteCells]
    unfold Bytes; rw [← this]; exact hy3
   ·rw [List.map_append]; exact hacc2
   ·rw [List.append_assoc, List.singleton_append, ← hall, allS_cons hb0, hg]
   ·rw [List.length_append, List.length_drop]; simp only [List.length_cons, List.length_nil]; omega
  (try refine qy ?_);(repeat refine qq ?_);refine qc (fun h2 => ?_) (fun h2 => ?_) <;> try simp only [cs] at h2
  ·refine EvC.reg ?_;(repeat (first | refine EvO.T rfl rfl rfl rfl ?_ | refine EvO.L rfl rfl rfl rfl ?_ | refine EvO.N rfl rfl rfl ?_ | refine EvO.offT rfl rfl ?_ | refine EvO.offL rfl rfl ?_));refine EvO.nil ?_;(try dsimp only [Fr.putO, Fr.put, Fr.clean, Fr.ev, Fr.get, nth, V.look, u1, u2, v1, v2, v3, v4, v5, v6, v7, List.length, u3, u4, Nat.reduceSub, Nat.reduceAdd, List.map]);have : oneS b' = (65533, 1) := by unfold oneS; rw [hf, if_pos (by simpa using h2)]
   rw [this] at H;exact H _
  ·refine EvC.skip ?_;have : oneS b' = (r0, n0) := by unfold oneS; rw [hf, if_neg (by simpa using h2)]
   rw [this] at H;exact H _
 ·refine EvC.exit ?_
  have hb0 : b' = [] := by cases b' with | nil => rfl | cons _ _ => simp at h1 <;> omega
  subst hb0;rw [allS_nil, List.append_nil] at hall;(try refine qy ?_);(repeat refine qq ?_);(try generalize hK : SeqQ _ _ _ _ = K);refine EvC.reg ?_;(repeat (first | refine EvO.T rfl rfl rfl rfl ?_ | refine EvO.L rfl rfl rfl rfl ?_ | refine EvO.N rfl rfl rfl ?_ | refine EvO.offT rfl rfl ?_ | refine EvO.offL rfl rfl ?_));refine EvO.nil ?_;(try dsimp only [Fr.putO, Fr.put, Fr.clean, Fr.ev, Fr.get, nth, V.look, u1, u2, v1, v2, v3, v4, v5, v6, v7, List.length, u3, u4, Nat.reduceSub, Nat.reduceAdd, List.map]);(try subst hK);(try refine qy ?_);refine EvC.ret ⟨rx, _, rfl, leave_same (by simp) (hex.take rfl) ?_⟩;rw [← hall];exact hacc.freeze gotC_plain (n := 15) (by decide)
/- the plain law: the two ways to look at the first rune -/
structure Prs where
 i : Nat
 o : Nat
 g : Nat
 e : Int
 w : Int
def prsC (gs : List (Nat × Nat)) (plD : D) (s : Prs) : List D := [gotsD gs, plD, .int .i64 (s.i : Nat), .int .i64 (s.o : Nat), .int .i64 (s.g : Nat), .int .i64 s.e, .int .i64 s.w]
def isS (gs : List (Nat × Nat)) (i : Nat) (r : Int) : Bool := match gs[i]? with
 | some g => ((g.1 : Nat) : Int) == r
 | none => false
theorem isS_lt {gs : List (Nat × Nat)} {i : Nat} {r : Int} (h : isS gs i r = true) : i < gs.length := by
 unfold isS at h
 split at h
 ·exact lt_get (by assumption)
 ·cases h
def skipS (gs : List (Nat × Nat)) (s : Prs) (r : Int) : Prs := if isS gs s.i r = true then { s with i := s.i + 1 } else s
def badS (gs : List (Nat × Nat)) (i : Nat) : Bool := match gs[i]? with
 | some g => ((g.1 : Nat) : Int) == 65533 && ((g.2 : Nat) : Int) == 1
 | none => false
def wrongS (pls : List Int) (s : Prs) (i : Nat) (e : Int) : Prs := if s.e = 0 then { s with e := e, w := pls.getD i 0 } else s
theorem is_ev {N k : Nat} {S s0 : St} {H : List Ent} {gs : List (Nat × Nat)} {plD : D} {s : Prs} (hgl : gs.length ≤ 1048576) (r : Int) (hH : Has N S s0 (.box k (.mem 0 false (prsC gs plD s)) :: H)) :
  ∃ d st', Ev pv 85 [.ptr k 0 0, .int .i32 r] s0 d st' ∧ d = .bool (isS gs s.i r) ∧ Has N S st' (.box k (.mem 0 false (prsC gs plD s)) :: H) := by
 refine Ev.mkE rfl fi85 rfl rfl rfl ?_;dsimp only [u3, u4, List.length, Nat.reduceSub, Nat.reduceAdd, w1, w2];have hH0 := hH;have hH := hH.enterRw;have hS2 : (enterSt .rw s0).bs = s0.bs := rfl;generalize enterSt .rw s0 = S2 at *;have hgr : Arg N S2 2 (gotsD gs) (gs.map gotC) := Arg.pure (fun st => gots_rows st gs);refine qq ?_;refine qj fun K hK => ?_;refine qm ?_;refine qe hK ?_
 by_cases ha : s.i < gs.length
 ·obtain ⟨g, hg⟩ : ∃ g, gs[s.i]? = some g := ⟨gs[s.i]'ha, List.getElem?_eq_getElem _⟩
  have hr1 : (gs.map gotC)[s.i]? = some (gotC g) := by rw [List.getElem?_map, hg]; rfl
  have hg10 : decide ((s.i : Int) < (gs.length : Nat)) = true := by rw [decide_eq_true]; simp; omega
  have hv : isS gs s.i r = (((g.1 : Nat) : Int) == r) := by unfold isS; rw [hg]
  refine qq ?_;refine EvC.cutL 4 (.bool (((g.1 : Nat) : Int) == r)) [] ?_ (fun ff tmp => ?_)
  ·refine qm ?_;refine qg ?_;refine qp (o := 2) ?_;refine ql hH at0 ?_;refine qm ?_;refine qg ?_;refine qp (o := 0) ?_;refine ql hH at0 ?_;refine qn ?_;simp only [List.length_map];refine qg ?_;refine qm ?_;refine qm ?_ (hg := wi hg10);refine qg ?_ (hg := wi hg10);refine qp (o := 0) ?_ (hg := wi hg10);refine ql hH at0 ?_ (hg := wi hg10);refine qm ?_ (hg := wi hg10);refine qg ?_ (hg := wi hg10);refine qp (o := 2) ?_ (hg := wi hg10);refine ql hH at0 ?_ (hg := wi hg10);refine qr (fun p24 hp24 => ?_) (hg := wi hg10);refine qf (fo := 0) (fun p25 hp25 => ?_) (hg := wi hg10);refine qR ?_ (hg := wi hg10);refine qm ?_ (hg := wi hg10);refine qg ?_ (hg := wi hg10);refine qt hg10 ?_;refine qm ?_;refine EvO.nil (leafL ?_);dsimp only [setW, List.foldl, nth, u2, u1];dsimp only [Fr.putO, Fr.put, Fr.clean, Fr.ev, Fr.get, nth, look, u1, u2, v1, v2, v4]
   all_goals (first | rfl | (simp [hg10]; done) | (simp_all; done) | (simp [hg10]; omega) | (simp_all; omega))
  dsimp only [setW, List.foldl, nth, u2, u1];refine EvC.ret ⟨rx, _, _, _, rfl, leaveD_rw (rfl), ?_⟩;exact ⟨by rw [hv]; rfl, hH0.leaveRw1 hS2 hH⟩
 ·have hg10 : decide ((s.i : Int) < (gs.length : Nat)) = false := by rw [decide_eq_false]; simp; omega
  have hv : isS gs s.i r = false := by
   cases h : isS gs s.i r with
   | true => exact absurd (isS_lt h) ha
   | false => rfl
  refine qq ?_;refine EvC.cutL 4 (.bool false) [] ?_ (fun ff tmp => ?_)
  ·refine qm ?_;refine qg ?_;refine qp (o := 2) ?_;refine ql hH at0 ?_;refine qm ?_;refine qg ?_;refine qp (o := 0) ?_;refine ql hH at0 ?_;refine qn ?_;simp only [List.length_map];refine qg ?_;refine qm ?_;refine qs ?_ (hg := wn hg10);refine qs ?_ (hg := wn hg10);refine qs ?_ (hg := wn hg10);refine qs ?_ (hg := wn hg10);refine qs ?_ (hg := wn hg10);refine qs ?_ (hg := wn hg10);refine qs ?_ (hg := wn hg10);refine qs ?_ (hg := wn hg10);refine qs ?_ (hg := wn hg10);refine qs ?_ (hg := wn hg10);refine qs ?_ (hg := wn hg10);refine qs ?_ (hg := wn hg10);refine qs ?_ (hg := wn hg10);refine qu hg10 ?_;refine qm ?_;refine EvO.nil (leafL ?_);dsimp only [setW, List.foldl, nth, u2, u1];dsimp only [Fr.putO, Fr.put, Fr.clean, Fr.ev, Fr.get, nth, look, u1, u2, v1, v2, v4]
   all_goals (first | rfl | (simp [hg10]; done) | (simp_all; done) | (simp [hg10]; omega) | (simp_all; omega))
  dsimp only [setW, List.foldl, nth, u2, u1];refine EvC.ret ⟨rx, _, _, _, rfl, leaveD_rw (rfl), ?_⟩;exact ⟨by rw [hv]; rfl, hH0.leaveRw1 hS2 hH⟩
theorem skip_ev {N k : Nat} {S s0 : St} {H : List Ent} {gs : List (Nat × Nat)} {plD : D} {s : Prs} (hgl : gs.length ≤ 1048576) (r : Int) (hH : Has N S s0 (.box k (.mem 0 false (prsC gs plD s)) :: H)) :
  ∃ d st', Ev pv 71 [.ptr k 0 0, .int .i32 r] s0 d st' ∧ d = .bool (isS gs s.i r) ∧ Has N S st' (.box k (.mem 0 false (prsC gs plD (skipS gs s r))) :: H) := by
 refine Ev.mkE rfl fi71 rfl rfl rfl ?_;dsimp only [u3, u4, List.length, Nat.reduceSub, Nat.reduceAdd, w1, w2];have hH0 := hH;have hH := hH.enterRw;have hS2 : (enterSt .rw s0).bs = s0.bs := rfl;generalize enterSt .rw s0 = S2 at *;refine qq ?_;refine qj fun K hK => ?_;refine qm ?_;refine qe hK ?_;refine qq ?_;refine qq ?_;refine qj fun K hK => ?_;refine qm ?_;refine qm ?_;obtain ⟨_, st, hev, rfl, hH⟩ := is_ev hgl r hH;refine qv hev ?_;refine qe hK ?_;unfold skipS
 cases hb : isS gs s.i r with
 | true =>
  have hlt := isS_lt hb;dsimp only [prsC] at hH;rw [if_pos rfl];refine qB ?_;refine qq ?_;refine qj fun K hK => ?_;refine qm ?_;refine qg ?_;refine qp (o := 2) ?_;refine ql hH at0 ?_;refine qA ?_;refine qg ?_;refine qp (o := 2) ?_;refine qT hH at0 fun st hH => ?_;dsimp only [u2, u1, u3, u4, setMany, u5, u6, D.cells, Nat.reduceAdd, prsC, gotC, intC] at hH;refine qe hK ?_;refine qq ?_;refine qj fun K hK => ?_;refine qm ?_;refine qe hK ?_;refine EvC.ret ⟨rx, _, _, _, rfl, leaveD_rw (rfl), ?_⟩;exact ⟨rfl, hH0.leaveRw1 hS2 hH⟩
 | false =>
  rw [if_neg (by simp)];refine qC ?_;refine EvC.skip ?_;refine qq ?_;refine qj fun K hK => ?_;refine qm ?_;refine qe hK ?_;refine EvC.ret ⟨rx, _, _, _, rfl, leaveD_rw (rfl), ?_⟩;exact ⟨rfl, hH0.leaveRw1 hS2 hH⟩
theorem bad_ev {N k : Nat} {S s0 : St} {H : List Ent} {gs : List (Nat × Nat)} {plD : D} {s : Prs} (i : Nat) (hi : i < gs.length) (hH : Has N S s0 (.box k (.mem 0 false (prsC gs plD s)) :: H)) :
  ∃ d st', Ev pv 100 [.ptr k 0 0, .int .i64 (i : Nat)] s0 d st' ∧ d = .bool (badS gs i) ∧ Has N S st' (.box k (.mem 0 false (prsC gs plD s)) :: H) := by
 refine Ev.mkE rfl fi100 rfl rfl rfl ?_;dsimp only [u3, u4, List.length, Nat.reduceSub, Nat.reduceAdd, w1, w2];have hH0 := hH;have hH := hH.enterRw;have hS2 : (enterSt .rw s0).bs = s0.bs := rfl;generalize enterSt .rw s0 = S2 at *;have hgr : Arg N S2 2 (gotsD gs) (gs.map gotC) := Arg.pure (fun st => gots_rows st gs);refine qq ?_;refine qj fun K hK => ?_;refine qm ?_;refine qe hK ?_
 obtain ⟨g, hg⟩ : ∃ g, gs[i]? = some g := ⟨gs[i]'hi, List.getElem?_eq_getElem _⟩
 have hr1 : (gs.map gotC)[i]? = some (gotC g) := by rw [List.getElem?_map, hg]; rfl
 have hv : badS gs i = (((g.1 : Nat) : Int) == 65533 && ((g.2 : Nat) : Int) == 1) := by unfold badS; rw [hg]
 refine qq ?_;refine EvC.cutL 4 (.bool (((g.1 : Nat) : Int) == 65533 && ((g.2 : Nat) : Int) == 1)) [] ?_ (fun ff tmp => ?_)
 ·refine qm ?_;refine qg ?_;refine qp (o := 0) ?_;refine ql hH at0 ?_;refine qm ?_;refine qr fun p10 hp10 => ?_;refine qf (fo := 0) fun p11 hp11 => ?_;refine qR ?_;refine qg ?_;refine qm ?_;refine EvO.two 14 rfl (fun hg9 => ?_) (fun hg9 => ?_)
  ·refine qm ?_ (hg := wi hg9);refine qg ?_ (hg := wi hg9);refine qp (o := 0) ?_ (hg := wi hg9);refine ql hH at0 ?_ (hg := wi hg9);refine qm ?_ (hg := wi hg9);refine qr (fun p20 hp20 => ?_) (hg := wi hg9);refine qf (fo := 1) (fun p21 hp21 => ?_) (hg := wi hg9);refine qR ?_ (hg := wi hg9);refine qg ?_ (hg := wi hg9);refine qt hg9 ?_;refine qm ?_;refine EvO.nil (leafL ?_);dsimp only [setW, List.foldl, nth, u2, u1];dsimp only [Fr.putO, Fr.put, Fr.clean, Fr.ev, Fr.get, nth, V.look, u1, u2, v1, v2, v3, v4, v5, v6, v7, List.length, u3, u4, Nat.reduceSub, Nat.reduceAdd, List.map]
   all_goals (simp [hg9]; done)
  ·refine qs ?_ (hg := wn hg9);refine qs ?_ (hg := wn hg9);refine qs ?_ (hg := wn hg9);refine qs ?_ (hg := wn hg9);refine qs ?_ (hg := wn hg9);refine qs ?_ (hg := wn hg9);refine qs ?_ (hg := wn hg9);refine qs ?_ (hg := wn hg9);refine qs ?_ (hg := wn hg9);refine qu hg9 ?_;refine qm ?_;refine EvO.nil (leafL ?_);dsimp only [setW, List.foldl, nth, u2, u1];dsimp only [Fr.putO, Fr.put, Fr.clean, Fr.ev, Fr.get, nth, V.look, u1, u2, v1, v2, v3, v4, v5, v6, v7, List.length, u3, u4, Nat.reduceSub, Nat.reduceAdd, List.map]
   all_goals (simp [hg9]; done)
 dsimp only [setW, List.foldl, nth, u2, u1];refine EvC.ret ⟨rx, _, _, _, rfl, leaveD_rw (rfl), ?_⟩;exact ⟨by rw [hv]; rfl, hH0.leaveRw1 hS2 hH⟩
theorem wrong_ev {N k : Nat} {S s0 : St} {H : List Ent} {gs : List (Nat × Nat)} {plD : D} {pls : List Int} {s : Prs} (i : Nat) (e : Int) (hi : i < pls.length) (hH : Has N S s0 (.box k (.mem 0 false (prsC gs plD s)) :: .lst plD 1 (pls.map intC) :: H)) :
  ∃ d st', Ev pv 55 [.ptr k 0 0, .int .i64 (i : Nat), .int .i64 e] s0 d st' ∧ d = .sl [] ∧ Has N S st' (.box k (.mem 0 false (prsC gs plD (wrongS pls s i e))) :: .lst plD 1 (pls.map intC) :: H) := by
 refine Ev.mkE rfl fi55 rfl rfl rfl ?_;dsimp only [u3, u4, List.length, Nat.reduceSub, Nat.reduceAdd, w1, w2];have hH0 := hH;have hH := hH.enterRw;have hS2 : (enterSt .rw s0).bs = s0.bs := rfl;generalize enterSt .rw s0 = S2 at *;refine qq ?_;refine qj fun K hK => ?_;refine qm ?_;refine qe hK ?_
 obtain ⟨v, hv⟩ : ∃ v, pls[i]? = some v := ⟨pls[i]'hi, List.getElem?_eq_getElem _⟩
 have hr1 := int_get hv;unfold wrongS;refine qq ?_;refine qq ?_;refine qj fun K hK => ?_;refine qm ?_;refine qg ?_;refine qp (o := 5) ?_;refine ql hH at0 ?_;refine qg ?_;refine qe hK ?_;refine EvC.cond (by rfl) (fun h0 => ?_) (fun h0 => ?_) <;> try simp only [beq_iff_eq, beq_eq_false_iff_ne, ne_eq] at h0
 ·rw [if_pos h0];have hgd : pls.getD i 0 = v := by rw [List.getD_eq_getElem?_getD, hv]; rfl
  refine qj fun K hK => ?_;refine qm ?_;refine qm ?_;refine qm ?_;refine qm ?_;refine qg ?_;refine qp (o := 1) ?_;refine ql hH at0 ?_;refine qm ?_;refine qi hH at1 fun p20 hp20 => ?_;refine qo hH at1 ?_;refine qg ?_;refine qp (o := 5) ?_;refine qT hH at0 fun st hH => ?_;dsimp only [u2, u1, u3, u4, setMany, u5, u6, D.cells, Nat.reduceAdd, prsC, gotC, intC] at hH;refine qg ?_;refine qp (o := 6) ?_;refine qT hH at0 fun st hH => ?_;dsimp only [u2, u1, u3, u4, setMany, u5, u6, D.cells, Nat.reduceAdd, prsC, gotC, intC] at hH;refine qe hK ?_;refine qq ?_;refine qj fun K hK => ?_;refine qm ?_;refine qe hK ?_;refine EvC.ret ⟨rx, _, _, _, rfl, leaveD_rw (rfl), ?_⟩;exact ⟨rfl, by rw [hgd]; exact hH0.leaveRw1 hS2 hH⟩
 ·rw [if_neg h0];refine EvC.skip ?_;refine qq ?_;refine qj fun K hK => ?_;refine qm ?_;refine qe hK ?_;refine EvC.ret ⟨rx, _, _, _, rfl, leaveD_rw (rfl), ?_⟩;exact ⟨rfl, hH0.leaveRw1 hS2 hH⟩
def ixF_Pb (fr : Go.V.Fr) (k : Nat) : Go.V.D := Go.V.nth .junk fr.loc k
noncomputable def makeR (l : List Rg) : List Rg := @dite _ (∃ a, MakeIs l a) (Classical.propDecidable _) (fun h => Classical.choose h) (fun _ => [])
theorem makeR_is {l a : List Rg} (h : MakeIs l a) : makeR l = a := by
 have hx : ∃ a, MakeIs l a := ⟨a, h⟩
 unfold makeR;rw [dif_pos hx];exact (Classical.choose_spec hx).unique h
theorem mk_ev {s0 : St} {x : D} {l : List Rg} (hx : V.Rows s0 2 x (l.map rangeC)) (hl : l.length ≤ 1048576) : Ev pv 83 [x] s0 (rangesV (makeR l)) s0 ∧ (makeR l).length ≤ 2 * l.length ∧ MakeIs l (makeR l) := by
 obtain ⟨_, hev, all, rfl, hperm, hpair⟩ := make_ev hx (by omega);have hM : MakeIs l (all.foldl joinR []).reverse := make_canon (fun x => hperm.mem_iff) hpair;have hlen := hperm.length_eq;have hfl := flatMap_len l;have hjl := join_pos all;rw [makeR_is hM];exact ⟨hev, by rw [List.length_reverse]; omega, hM⟩
theorem ranges_sl (l : List Rg) : SlD (rangesV l) 2 (l.map rangeC) := by
 rw [← rangesV_el];refine SlD.frozen ?_ ?_
 ·intro e he; obtain ⟨x, _, rfl⟩ := List.mem_map.1 he; rfl
 ·intro e he d hd;obtain ⟨x, _, rfl⟩ := List.mem_map.1 he;simp only [rangeC, List.mem_cons, List.not_mem_nil, or_false] at hd
  rcases hd with rfl | rfl <;> rfl
theorem make_ne {r : Int} {l a : List Rg} (h0 : 0 ≤ r) (h1 : r < 55296) (hr : memR l r) (h : MakeIs l a) : a ≠ [] := by
 rintro rfl;have := (h.2 r).2 ⟨by unfold isRune; omega, hr⟩;obtain ⟨x, hx, _⟩ := this;cases hx
theorem make_single {r : Int} (h0 : 0 ≤ r) (h1 : r < 55296) {a : List Rg} (h : MakeIs [(r, r)] a) : a ≠ [] := by
 rintro rfl;have := (h.2 r).2 ⟨?_, ?_⟩
 ·obtain ⟨x, hx, _⟩ := this;cases hx
 ·unfold isRune; omega
 ·exact ⟨(r, r), List.mem_cons_self .., by simp⟩
theorem single_ev {s0 : St} (r : Int) : Ev pv 105 [.int .i32 r] s0 (rangesV (makeR [(r, r)])) s0 := by
 refine Ev.mk1 rfl fi105 rfl rfl rfl ?_;dsimp only [u3, u4, List.length, Nat.reduceSub, Nat.reduceAdd, w1, w2];obtain ⟨hSb, hF, hH⟩ := ri s0;generalize enterSt .ro s0 = S at *;refine qq ?_;refine qj fun K hK => ?_;refine qm ?_;refine qe hK ?_;refine qq ?_;refine qj fun K hK => ?_;refine qm ?_;refine qm ?_;refine EvO.ones (qs := [(0, _), (1, _)]) rfl rfl rfl rfl ⟨rfl, (ev rfl), (by rfl), rfl, (ev rfl), (by rfl), trivial⟩ (by intro q hq; simp only [List.mem_cons, List.not_mem_nil, or_false] at hq; rcases hq with rfl | rfl <;> exact ⟨rfl, by exact Nat.le_of_ble_eq_true rfl⟩) (by show List.foldl _ [_, _] _ = _; dsimp only [List.foldl_cons, List.foldl_nil, u2, u1] <;> rfl) (put_T rfl _) ?_;refine qh (s := 2) (vs := [_]) hH fun k6 st hk6 hH => ?_;obtain ⟨hev, hl, _⟩ := mk_ev (l := [(r, r)]) (hH.rows at0) (by simp);refine qv hev ?_;refine qm ?_;refine qe hK ?_;refine EvC.ret ⟨rx, _, rfl, rl hSb hH (rfl)⟩
theorem not_ev {s0 : St} {x : D} {l : List Rg} (hx : V.Rows s0 2 x (l.map rangeC)) (hl : l.length ≤ 131072) : ∃ d, Ev pv 120 [x] s0 d s0 ∧ ∃ a : List Rg, d = rangesV a ∧ a.length ≤ 4 * l.length + 2 := by
 refine Ev.mkR rfl fi120 rfl rfl rfl ?_;dsimp only [u3, u4, List.length, Nat.reduceSub, Nat.reduceAdd, w1, w2];obtain ⟨hSb, hF, hH⟩ := ri s0;generalize enterSt .ro s0 = S at *;have hx := Arg.of hx hSb;refine qq ?_;refine qj fun K hK => ?_;refine qm ?_;refine qe hK ?_;refine qq ?_;refine qj fun K hK => ?_;refine qm ?_;refine qe hK ?_;refine qq ?_;refine qj fun K hK => ?_;refine qm ?_;refine qe hK ?_;obtain ⟨hev, hml, _⟩ := mk_ev (hx.rows hH) (by omega);have hla := (ranges_sl (makeR l)).arg s0.bs.length S;generalize makeR l = m at *;refine qq ?_;refine qq ?_;refine qj fun K hK => ?_;refine qm ?_;refine qv (hev) ?_;refine qn ?_;simp only [List.length_map];refine qm ?_;refine qe hK ?_;have hH := hH.nulE 2;refine EvC.block ?_;refine EvC.loop (fun mm fr st => ∃ (i : Nat) (n : Int) (o : D) (out : List Rg), fr.clean = ⟨11, [ixF_Pb fr 0, ixF_Pb fr 1, ixF_Pb fr 2, o, .int .i32 n, ixF_Pb fr 5, ixF_Pb fr 6, ixF_Pb fr 7, rangesV m, .int .i64 (m.length : Nat), .int .i64 (i : Nat)], []⟩ ∧ Has s0.bs.length S st [.lst o 2 (out.map rangeC)] ∧ (i + mm = m.length) ∧ (out.length = i)) (m.length) ?_ ?_
 ·exact ⟨0, 0, .nul, [], rfl, hH, by omega, rfl⟩
 rintro mm fr st ⟨i, n, o, out, hfr, hH, hi, ho⟩;rw [hfr];clear hfr;generalize ixF_Pb fr = ee;clear fr;refine qq ?_;refine qj fun K hK => ?_;refine qg ?_;refine qe hK ?_;refine qq ?_;refine EvC.cond (by rfl) (fun h1 => ?_) (fun h1 => ?_) <;> try simp only [decide_eq_true_eq, decide_eq_false_iff_not] at h1
 ·refine EvC.skip ?_
  obtain ⟨q, hq⟩ : ∃ q, m[i]? = some q := ⟨m[i]'(by omega), List.getElem?_eq_getElem _⟩
  have hr := range_get hq;refine qq ?_;refine EvC.block ?_;refine qq ?_;refine qj fun K hK => ?_;refine qr fun p12 hp12 => ?_;refine EvO.rloadS rfl (ev rfl) (by assumption) rfl (put_T rfl _) ?_;refine qa hH fun k6 st hk6 hH => ?_;refine qS hH at0 fun st hH => ?_;dsimp only [u2, u1, u3, u4, setMany, u5, u6, D.cells, Nat.reduceAdd, rangeC] at hH;refine qe hK ?_;refine qq ?_;refine qj fun K hK => ?_;refine qm ?_;refine qm ?_;refine qp (o := 0) ?_;refine ql hH at0 ?_;refine EvO.subZ (z := wrapD .i32 (q.1 - 1)) rfl (ev rfl) (ev rfl) rfl (put_T rfl _) ?_;refine EvO.ones (qs := [(0, _), (1, _)]) rfl rfl rfl rfl ⟨rfl, (ev rfl), (by rfl), rfl, (ev rfl), (by rfl), trivial⟩ (by intro q hq; simp only [List.mem_cons, List.not_mem_nil, or_false] at hq; rcases hq with rfl | rfl <;> exact ⟨rfl, by exact Nat.le_of_ble_eq_true rfl⟩) (by show List.foldl _ [_, _] _ = _; dsimp only [List.foldl_cons, List.foldl_nil, u2, u1] <;> rfl) (put_T rfl _) ?_;refine qh (s := 2) (vs := [_]) hH fun k20 st hk20 hH => ?_;refine EvO.happend (s := 2) hH rfl (ev rfl) (ev rfl) (by exact at2) (by exact hH.rows (by exact at0)) rfl rfl rfl rfl rfl rfl rfl ⟨(Nat.le_of_ble_eq_true rfl), (Nat.le_of_ble_eq_true rfl)⟩ (fun _ => (put_T rfl _)) (by simp only [List.length_cons, List.length_nil, List.length_map] <;> omega) (by exact .inl hF) (fun x21 st hH => ?_);dsimp only [u2, u1, u3, u4, setMany, u5, u6, D.cells, Nat.reduceAdd, rangeC] at hH;refine qm ?_;refine qe hK ?_;refine qj fun K hK => ?_;refine qp (o := 1) ?_;refine ql hH at1 ?_;refine EvO.addZ (z := wrapD .i32 (q.2 + 1)) rfl (ev rfl) (ev rfl) rfl (put_T rfl _) ?_;refine qm ?_;refine qe hK ?_;refine qj fun K hK => ?_;refine qA ?_;refine qm ?_;refine qe hK ?_;exact ⟨mm - 1, by omega, ⟨i + 1, _, _, out ++ [(n, wrapD .i32 (q.1 - 1))], rfl, (by rw [List.map_append]; exact hH.drop 2), by omega, by simp [ho]⟩⟩
 ·refine EvC.exit ?_;refine qq ?_;refine qj fun K hK => ?_;refine qm ?_;refine qm ?_;refine EvO.ones (qs := [(0, _), (1, _)]) rfl rfl rfl rfl ⟨rfl, (ev rfl), (by rfl), rfl, (ev rfl), (by rfl), trivial⟩ (by intro q hq; simp only [List.mem_cons, List.not_mem_nil, or_false] at hq; rcases hq with rfl | rfl <;> exact ⟨rfl, by exact Nat.le_of_ble_eq_true rfl⟩) (by show List.foldl _ [_, _] _ = _; dsimp only [List.foldl_cons, List.foldl_nil, u2, u1] <;> rfl) (put_T rfl _) ?_;refine qh (s := 2) (vs := [_]) hH fun k29 st hk29 hH => ?_;refine EvO.happend (s := 2) hH rfl (ev rfl) (ev rfl) (by exact at1) (by exact hH.rows (by exact at0)) rfl rfl rfl rfl rfl rfl rfl ⟨(Nat.le_of_ble_eq_true rfl), (Nat.le_of_ble_eq_true rfl)⟩ (fun _ => (put_T rfl _)) (by simp only [List.length_cons, List.length_nil, List.length_map] <;> omega) (by exact .inl hF) (fun x30 st hH => ?_);dsimp only [u2, u1, u3, u4, setMany, u5, u6, D.cells, Nat.reduceAdd, rangeC] at hH;obtain ⟨hev, hl2, _⟩ := mk_ev (l := out ++ [(n, 1114111)]) (by rw [List.map_append]; exact hH.rows at1) (by simp; omega);refine qv hev ?_;refine qm ?_;refine qe hK ?_;refine EvC.ret ⟨rx, _, _, rfl, rl hSb hH (rfl), ?_⟩;exact ⟨_, rfl, by simp at hl2; omega⟩
theorem dot_ev {s0 : St} : ∃ d, Ev pv 104 [] s0 d s0 ∧ ∃ a : List Rg, d = rangesV a ∧ a.length ≤ 6 := by
 refine Ev.mkR rfl fi104 rfl rfl rfl ?_;dsimp only [u3, u4, List.length, Nat.reduceSub, Nat.reduceAdd, w1, w2];obtain ⟨hSb, hF, hH⟩ := ri s0;generalize enterSt .ro s0 = S at *;refine qq ?_;refine qj fun K hK => ?_;refine qm ?_;refine qe hK ?_;refine qq ?_;refine qj fun K hK => ?_;refine EvO.ones (qs := [(0, _), (1, _)]) rfl rfl rfl rfl ⟨rfl, (ev rfl), (by rfl), rfl, (ev rfl), (by rfl), trivial⟩ (by intro q hq; simp only [List.mem_cons, List.not_mem_nil, or_false] at hq; rcases hq with rfl | rfl <;> exact ⟨rfl, by exact Nat.le_of_ble_eq_true rfl⟩) (by show List.foldl _ [_, _] _ = _; dsimp only [List.foldl_cons, List.foldl_nil, u2, u1] <;> rfl) (put_T rfl _) ?_;refine qh (s := 2) (vs := [_]) hH fun k2 st hk2 hH => ?_;obtain ⟨_, hev, a, rfl, hl⟩ := not_ev (l := [(10, 10)]) (hH.rows at0) (by simp);refine qv hev ?_;refine qm ?_;refine qe hK ?_;refine EvC.ret ⟨rx, _, _, rfl, rl hSb hH (rfl), ?_⟩;exact ⟨a, rfl, hl⟩
theorem mark_ev {s0 : St} (r : Int) : Ev pv 121 [.int .i32 r] s0 (.bool (decide (33 ≤ r ∧ r ≤ 47 ∨ 58 ≤ r ∧ r ≤ 64 ∨ 91 ≤ r ∧ r ≤ 96 ∨ 123 ≤ r ∧ r ≤ 126))) s0 := by
 refine Ev.mk1 rfl fi121 rfl rfl rfl ?_;dsimp only [u3, u4, List.length, Nat.reduceSub, Nat.reduceAdd, w1, w2];obtain ⟨hSb, hF, hH⟩ := ri s0;generalize enterSt .ro s0 = S at *;refine qq ?_;refine qj fun K hK => ?_;refine qm ?_;refine qe hK ?_;refine qq ?_;refine EvC.cutL 2 (.bool (decide (33 ≤ r ∧ r ≤ 47 ∨ 58 ≤ r ∧ r ≤ 64 ∨ 91 ≤ r ∧ r ≤ 96 ∨ 123 ≤ r ∧ r ≤ 126))) [] ?_ (fun ff tmp => ?_)
 ·refine qm ?_;refine qg ?_;refine qm ?_;refine EvO.two 5 rfl (fun hg2 => ?_) (fun hg2 => ?_)
  ·refine qm ?_ (hg := wi hg2);refine qg ?_ (hg := wi hg2);refine qt hg2 ?_;refine qm ?_;refine EvO.two 9 rfl (fun hg6 => ?_) (fun hg6 => ?_)
   ·refine qs ?_ (hg := wn hg6);refine qs ?_ (hg := wn hg6);refine qs ?_ (hg := wn hg6);refine qs ?_;refine qs ?_;refine qs ?_ (hg := wn hg6);refine qt hg6 ?_;refine qm ?_;refine qs ?_;refine qs ?_;refine qs ?_;refine qs ?_;refine qs ?_;refine qs ?_;refine qg ?_;refine qm ?_;refine qs ?_;refine qs ?_;refine qs ?_;refine qs ?_;refine qs ?_;refine qs ?_;refine qg ?_;refine qm ?_;refine EvO.nil (leafL ?_);dsimp only [setW, List.foldl, nth, u2, u1];dsimp only [Fr.putO, Fr.put, Fr.clean, Fr.ev, Fr.get, nth, V.look, u1, u2, v1, v2, v3, v4, v5, v6, v7, List.length, u3, u4, Nat.reduceSub, Nat.reduceAdd, List.map]
    all_goals (simp [hg2, hg6]; done)
   ·refine qm ?_ (hg := wi hg6);refine qg ?_ (hg := wi hg6);refine qm ?_ (hg := wi hg6);refine EvO.two 12 rfl (fun hg9 => ?_) (fun hg9 => ?_)
    ·refine qm ?_ (hg := wi hg9);refine qg ?_ (hg := wi hg9);refine EvO.pickT (wantD_is rfl rfl rfl hg6) rfl hg9 (put_T rfl _) ?_;refine qu hg6 ?_;refine qm ?_;refine EvO.two 17 rfl (fun hg14 => ?_) (fun hg14 => ?_)
     ·refine qs ?_ (hg := wn hg14);refine qs ?_ (hg := wn hg14);refine qs ?_ (hg := wn hg14);refine qs ?_;refine qs ?_;refine qs ?_ (hg := wn hg14);refine qt hg14 ?_;refine qm ?_;refine qs ?_;refine qs ?_;refine qs ?_;refine qs ?_;refine qs ?_;refine qs ?_;refine qg ?_;refine qm ?_;refine EvO.nil (leafL ?_);dsimp only [setW, List.foldl, nth, u2, u1];dsimp only [Fr.putO, Fr.put, Fr.clean, Fr.ev, Fr.get, nth, V.look, u1, u2, v1, v2, v3, v4, v5, v6, v7, List.length, u3, u4, Nat.reduceSub, Nat.reduceAdd, List.map]
      all_goals (simp [hg2, hg6, hg9, hg14]; done)
     ·refine qm ?_ (hg := wi hg14);refine qg ?_ (hg := wi hg14);refine qm ?_ (hg := wi hg14);refine EvO.two 20 rfl (fun hg17 => ?_) (fun hg17 => ?_)
      ·refine qm ?_ (hg := wi hg17);refine qg ?_ (hg := wi hg17);refine EvO.pickT (wantD_is rfl rfl rfl hg14) rfl hg17 (put_T rfl _) ?_;refine qu hg14 ?_;refine qm ?_;refine EvO.two 25 rfl (fun hg22 => ?_) (fun hg22 => ?_)
       ·refine qs ?_ (hg := wn hg22);refine qs ?_ (hg := wn hg22);refine qs ?_ (hg := wn hg22);refine qs ?_;refine qs ?_;refine qs ?_ (hg := wn hg22);refine qt hg22 ?_;refine qm ?_;refine EvO.nil (leafL ?_);dsimp only [setW, List.foldl, nth, u2, u1];dsimp only [Fr.putO, Fr.put, Fr.clean, Fr.ev, Fr.get, nth, V.look, u1, u2, v1, v2, v3, v4, v5, v6, v7, List.length, u3, u4, Nat.reduceSub, Nat.reduceAdd, List.map]
        all_goals (simp [hg2, hg6, hg9, hg14, hg17, hg22]; done)
       ·refine qm ?_ (hg := wi hg22);refine qg ?_ (hg := wi hg22);refine qm ?_ (hg := wi hg22);refine EvO.two 28 rfl (fun hg25 => ?_) (fun hg25 => ?_)
        ·refine qm ?_ (hg := wi hg25);refine qg ?_ (hg := wi hg25);refine EvO.pickT (wantD_is rfl rfl rfl hg22) rfl hg25 (put_T rfl _) ?_;refine qu hg22 ?_;refine qm ?_;refine EvO.nil (leafL ?_);dsimp only [setW, List.foldl, nth, u2, u1];dsimp only [Fr.putO, Fr.put, Fr.clean, Fr.ev, Fr.get, nth, V.look, u1, u2, v1, v2, v3, v4, v5, v6, v7, List.length, u3, u4, Nat.reduceSub, Nat.reduceAdd, List.map]
         all_goals (simp [hg2, hg6, hg9, hg14, hg17, hg22, hg25]; done)
        ·refine qs ?_ (hg := wn hg25);refine qs ?_ (hg := wn hg25);refine EvO.pickF (wantD_is rfl rfl rfl hg22) rfl hg25 (put_T rfl _) ?_;refine qu hg22 ?_;refine qm ?_;refine EvO.nil (leafL ?_);dsimp only [setW, List.foldl, nth, u2, u1];dsimp only [Fr.putO, Fr.put, Fr.clean, Fr.ev, Fr.get, nth, V.look, u1, u2, v1, v2, v3, v4, v5, v6, v7, List.length, u3, u4, Nat.reduceSub, Nat.reduceAdd, List.map]
         all_goals (simp [hg2, hg6, hg9, hg14, hg17, hg22, hg25]; done)
      ·refine qs ?_ (hg := wn hg17);refine qs ?_ (hg := wn hg17);refine EvO.pickF (wantD_is rfl rfl rfl hg14) rfl hg17 (put_T rfl _) ?_;refine qu hg14 ?_;refine qm ?_;refine qm ?_;refine qg ?_;refine qm ?_;refine EvO.two 28 rfl (fun hg25 => ?_) (fun hg25 => ?_)
       ·refine qm ?_ (hg := wi hg25);refine qg ?_ (hg := wi hg25);refine qt hg25 ?_;refine qg ?_;refine qm ?_;refine EvO.nil (leafL ?_);dsimp only [setW, List.foldl, nth, u2, u1];dsimp only [Fr.putO, Fr.put, Fr.clean, Fr.ev, Fr.get, nth, V.look, u1, u2, v1, v2, v3, v4, v5, v6, v7, List.length, u3, u4, Nat.reduceSub, Nat.reduceAdd, List.map]
        all_goals (simp [hg2, hg6, hg9, hg14, hg17, hg25]; done)
       ·refine qs ?_ (hg := wn hg25);refine qs ?_ (hg := wn hg25);refine qu hg25 ?_;refine qg ?_;refine qm ?_;refine EvO.nil (leafL ?_);dsimp only [setW, List.foldl, nth, u2, u1];dsimp only [Fr.putO, Fr.put, Fr.clean, Fr.ev, Fr.get, nth, V.look, u1, u2, v1, v2, v3, v4, v5, v6, v7, List.length, u3, u4, Nat.reduceSub, Nat.reduceAdd, List.map]
        all_goals (simp [hg2, hg6, hg9, hg14, hg17, hg25]; done)
    ·refine qs ?_ (hg := wn hg9);refine qs ?_ (hg := wn hg9);refine EvO.pickF (wantD_is rfl rfl rfl hg6) rfl hg9 (put_T rfl _) ?_;refine qu hg6 ?_;refine qm ?_;refine qm ?_;refine qg ?_;refine qm ?_;refine EvO.two 20 rfl (fun hg17 => ?_) (fun hg17 => ?_)
     ·refine qm ?_ (hg := wi hg17);refine qg ?_ (hg := wi hg17);refine qt hg17 ?_;refine qg ?_;refine qm ?_;refine EvO.two 25 rfl (fun hg22 => ?_) (fun hg22 => ?_)
      ·refine qs ?_ (hg := wn hg22);refine qs ?_ (hg := wn hg22);refine qs ?_ (hg := wn hg22);refine qs ?_;refine qs ?_;refine qs ?_ (hg := wn hg22);refine qt hg22 ?_;refine qm ?_;refine EvO.nil (leafL ?_);dsimp only [setW, List.foldl, nth, u2, u1];dsimp only [Fr.putO, Fr.put, Fr.clean, Fr.ev, Fr.get, nth, V.look, u1, u2, v1, v2, v3, v4, v5, v6, v7, List.length, u3, u4, Nat.reduceSub, Nat.reduceAdd, List.map]
       all_goals (simp [hg2, hg6, hg9, hg17, hg22]; done)
      ·refine qm ?_ (hg := wi hg22);refine qg ?_ (hg := wi hg22);refine qm ?_ (hg := wi hg22);refine EvO.two 28 rfl (fun hg25 => ?_) (fun hg25 => ?_)
       ·refine qm ?_ (hg := wi hg25);refine qg ?_ (hg := wi hg25);refine EvO.pickT (wantD_is rfl rfl rfl hg22) rfl hg25 (put_T rfl _) ?_;refine qu hg22 ?_;refine qm ?_;refine EvO.nil (leafL ?_);dsimp only [setW, List.foldl, nth, u2, u1];dsimp only [Fr.putO, Fr.put, Fr.clean, Fr.ev, Fr.get, nth, V.look, u1, u2, v1, v2, v3, v4, v5, v6, v7, List.length, u3, u4, Nat.reduceSub, Nat.reduceAdd, List.map]
        all_goals (simp [hg2, hg6, hg9, hg17, hg22, hg25]; done)
       ·refine qs ?_ (hg := wn hg25);refine qs ?_ (hg := wn hg25);refine EvO.pickF (wantD_is rfl rfl rfl hg22) rfl hg25 (put_T rfl _) ?_;refine qu hg22 ?_;refine qm ?_;refine EvO.nil (leafL ?_);dsimp only [setW, List.foldl, nth, u2, u1];dsimp only [Fr.putO, Fr.put, Fr.clean, Fr.ev, Fr.get, nth, V.look, u1, u2, v1, v2, v3, v4, v5, v6, v7, List.length, u3, u4, Nat.reduceSub, Nat.reduceAdd, List.map]
        all_goals (simp [hg2, hg6, hg9, hg17, hg22, hg25]; done)
     ·refine qs ?_ (hg := wn hg17);refine qs ?_ (hg := wn hg17);refine qu hg17 ?_;refine qg ?_;refine qm ?_;refine qm ?_;refine qg ?_;refine qm ?_;refine EvO.two 28 rfl (fun hg25 => ?_) (fun hg25 => ?_)
      ·refine qm ?_ (hg := wi hg25);refine qg ?_ (hg := wi hg25);refine qt hg25 ?_;refine qg ?_;refine qm ?_;refine EvO.nil (leafL ?_);dsimp only [setW, List.foldl, nth, u2, u1];dsimp only [Fr.putO, Fr.put, Fr.clean, Fr.ev, Fr.get, nth, V.look, u1, u2, v1, v2, v3, v4, v5, v6, v7, List.length, u3, u4, Nat.reduceSub, Nat.reduceAdd, List.map]
       all_goals (simp [hg2, hg6, hg9, hg17, hg25]; done)
      ·refine qs ?_ (hg := wn hg25);refine qs ?_ (hg := wn hg25);refine qu hg25 ?_;refine qg ?_;refine qm ?_;refine EvO.nil (leafL ?_);dsimp only [setW, List.foldl, nth, u2, u1];dsimp only [Fr.putO, Fr.put, Fr.clean, Fr.ev, Fr.get, nth, V.look, u1, u2, v1, v2, v3, v4, v5, v6, v7, List.length, u3, u4, Nat.reduceSub, Nat.reduceAdd, List.map]
       all_goals (simp [hg2, hg6, hg9, hg17, hg25]; done)
  ·refine qs ?_ (hg := wn hg2);refine qs ?_ (hg := wn hg2);refine qu hg2 ?_;refine qm ?_;refine qm ?_;refine qg ?_;refine qm ?_;refine EvO.two 12 rfl (fun hg9 => ?_) (fun hg9 => ?_)
   ·refine qm ?_ (hg := wi hg9);refine qg ?_ (hg := wi hg9);refine qt hg9 ?_;refine qg ?_;refine qm ?_;refine EvO.two 17 rfl (fun hg14 => ?_) (fun hg14 => ?_)
    ·refine qs ?_ (hg := wn hg14);refine qs ?_ (hg := wn hg14);refine qs ?_ (hg := wn hg14);refine qs ?_;refine qs ?_;refine qs ?_ (hg := wn hg14);refine qt hg14 ?_;refine qm ?_;refine qs ?_;refine qs ?_;refine qs ?_;refine qs ?_;refine qs ?_;refine qs ?_;refine qg ?_;refine qm ?_;refine EvO.nil (leafL ?_);dsimp only [setW, List.foldl, nth, u2, u1];dsimp only [Fr.putO, Fr.put, Fr.clean, Fr.ev, Fr.get, nth, V.look, u1, u2, v1, v2, v3, v4, v5, v6, v7, List.length, u3, u4, Nat.reduceSub, Nat.reduceAdd, List.map]
     all_goals (simp [hg2, hg9, hg14]; done)
    ·refine qm ?_ (hg := wi hg14);refine qg ?_ (hg := wi hg14);refine qm ?_ (hg := wi hg14);refine EvO.two 20 rfl (fun hg17 => ?_) (fun hg17 => ?_)
     ·refine qm ?_ (hg := wi hg17);refine qg ?_ (hg := wi hg17);refine EvO.pickT (wantD_is rfl rfl rfl hg14) rfl hg17 (put_T rfl _) ?_;refine qu hg14 ?_;refine qm ?_;refine EvO.two 25 rfl (fun hg22 => ?_) (fun hg22 => ?_)
      ·refine qs ?_ (hg := wn hg22);refine qs ?_ (hg := wn hg22);refine qs ?_ (hg := wn hg22);refine qs ?_;refine qs ?_;refine qs ?_ (hg := wn hg22);refine qt hg22 ?_;refine qm ?_;refine EvO.nil (leafL ?_);dsimp only [setW, List.foldl, nth, u2, u1];dsimp only [Fr.putO, Fr.put, Fr.clean, Fr.ev, Fr.get, nth, V.look, u1, u2, v1, v2, v3, v4, v5, v6, v7, List.length, u3, u4, Nat.reduceSub, Nat.reduceAdd, List.map]
       all_goals (simp [hg2, hg9, hg14, hg17, hg22]; done)
      ·refine qm ?_ (hg := wi hg22);refine qg ?_ (hg := wi hg22);refine qm ?_ (hg := wi hg22);refine EvO.two 28 rfl (fun hg25 => ?_) (fun hg25 => ?_)
       ·refine qm ?_ (hg := wi hg25);refine qg ?_ (hg := wi hg25);refine EvO.pickT (wantD_is rfl rfl rfl hg22) rfl hg25 (put_T rfl _) ?_;refine qu hg22 ?_;refine qm ?_;refine EvO.nil (leafL ?_);dsimp only [setW, List.foldl, nth, u2, u1];dsimp only [Fr.putO, Fr.put, Fr.clean, Fr.ev, Fr.get, nth, V.look, u1, u2, v1, v2, v3, v4, v5, v6, v7, List.length, u3, u4, Nat.reduceSub, Nat.reduceAdd, List.map]
        all_goals (simp [hg2, hg9, hg14, hg17, hg22, hg25]; done)
       ·refine qs ?_ (hg := wn hg25);refine qs ?_ (hg := wn hg25);refine EvO.pickF (wantD_is rfl rfl rfl hg22) rfl hg25 (put_T rfl _) ?_;refine qu hg22 ?_;refine qm ?_;refine EvO.nil (leafL ?_);dsimp only [setW, List.foldl, nth, u2, u1];dsimp only [Fr.putO, Fr.put, Fr.clean, Fr.ev, Fr.get, nth, V.look, u1, u2, v1, v2, v3, v4, v5, v6, v7, List.length, u3, u4, Nat.reduceSub, Nat.reduceAdd, List.map]
        all_goals (simp [hg2, hg9, hg14, hg17, hg22, hg25]; done)
     ·refine qs ?_ (hg := wn hg17);refine qs ?_ (hg := wn hg17);refine EvO.pickF (wantD_is rfl rfl rfl hg14) rfl hg17 (put_T rfl _) ?_;refine qu hg14 ?_;refine qm ?_;refine qm ?_;refine qg ?_;refine qm ?_;refine EvO.two 28 rfl (fun hg25 => ?_) (fun hg25 => ?_)
      ·refine qm ?_ (hg := wi hg25);refine qg ?_ (hg := wi hg25);refine qt hg25 ?_;refine qg ?_;refine qm ?_;refine EvO.nil (leafL ?_);dsimp only [setW, List.foldl, nth, u2, u1];dsimp only [Fr.putO, Fr.put, Fr.clean, Fr.ev, Fr.get, nth, V.look, u1, u2, v1, v2, v3, v4, v5, v6, v7, List.length, u3, u4, Nat.reduceSub, Nat.reduceAdd, List.map]
       all_goals (simp [hg2, hg9, hg14, hg17, hg25]; done)
      ·refine qs ?_ (hg := wn hg25);refine qs ?_ (hg := wn hg25);refine qu hg25 ?_;refine qg ?_;refine qm ?_;refine EvO.nil (leafL ?_);dsimp only [setW, List.foldl, nth, u2, u1];dsimp only [Fr.putO, Fr.put, Fr.clean, Fr.ev, Fr.get, nth, V.look, u1, u2, v1, v2, v3, v4, v5, v6, v7, List.length, u3, u4, Nat.reduceSub, Nat.reduceAdd, List.map]
       all_goals (simp [hg2, hg9, hg14, hg17, hg25]; done)
   ·refine qs ?_ (hg := wn hg9);refine qs ?_ (hg := wn hg9);refine qu hg9 ?_;refine qg ?_;refine qm ?_;refine qm ?_;refine qg ?_;refine qm ?_;refine EvO.two 20 rfl (fun hg17 => ?_) (fun hg17 => ?_)
    ·refine qm ?_ (hg := wi hg17);refine qg ?_ (hg := wi hg17);refine qt hg17 ?_;refine qg ?_;refine qm ?_;refine EvO.two 25 rfl (fun hg22 => ?_) (fun hg22 => ?_)
     ·refine qs ?_ (hg := wn hg22);refine qs ?_ (hg := wn hg22);refine qs ?_ (hg := wn hg22);refine qs ?_;refine qs ?_;refine qs ?_ (hg := wn hg22);refine qt hg22 ?_;refine qm ?_;refine EvO.nil (leafL ?_);dsimp only [setW, List.foldl, nth, u2, u1];dsimp only [Fr.putO, Fr.put, Fr.clean, Fr.ev, Fr.get, nth, V.look, u1, u2, v1, v2, v3, v4, v5, v6, v7, List.length, u3, u4, Nat.reduceSub, Nat.reduceAdd, List.map]
      all_goals (simp [hg2, hg9, hg17, hg22]; done)
     ·refine qm ?_ (hg := wi hg22);refine qg ?_ (hg := wi hg22);refine qm ?_ (hg := wi hg22);refine EvO.two 28 rfl (fun hg25 => ?_) (fun hg25 => ?_)
      ·refine qm ?_ (hg := wi hg25);refine qg ?_ (hg := wi hg25);refine EvO.pickT (wantD_is rfl rfl rfl hg22) rfl hg25 (put_T rfl _) ?_;refine qu hg22 ?_;refine qm ?_;refine EvO.nil (leafL ?_);dsimp only [setW, List.foldl, nth, u2, u1];dsimp only [Fr.putO, Fr.put, Fr.clean, Fr.ev, Fr.get, nth, V.look, u1, u2, v1, v2, v3, v4, v5, v6, v7, List.length, u3, u4, Nat.reduceSub, Nat.reduceAdd, List.map]
       all_goals (simp [hg2, hg9, hg17, hg22, hg25]; done)
      ·refine qs ?_ (hg := wn hg25);refine qs ?_ (hg := wn hg25);refine EvO.pickF (wantD_is rfl rfl rfl hg22) rfl hg25 (put_T rfl _) ?_;refine qu hg22 ?_;refine qm ?_;refine EvO.nil (leafL ?_);dsimp only [setW, List.foldl, nth, u2, u1];dsimp only [Fr.putO, Fr.put, Fr.clean, Fr.ev, Fr.get, nth, V.look, u1, u2, v1, v2, v3, v4, v5, v6, v7, List.length, u3, u4, Nat.reduceSub, Nat.reduceAdd, List.map]
       all_goals (simp [hg2, hg9, hg17, hg22, hg25]; done)
    ·refine qs ?_ (hg := wn hg17);refine qs ?_ (hg := wn hg17);refine qu hg17 ?_;refine qg ?_;refine qm ?_;refine qm ?_;refine qg ?_;refine qm ?_;refine EvO.two 28 rfl (fun hg25 => ?_) (fun hg25 => ?_)
     ·refine qm ?_ (hg := wi hg25);refine qg ?_ (hg := wi hg25);refine qt hg25 ?_;refine qg ?_;refine qm ?_;refine EvO.nil (leafL ?_);dsimp only [setW, List.foldl, nth, u2, u1];dsimp only [Fr.putO, Fr.put, Fr.clean, Fr.ev, Fr.get, nth, V.look, u1, u2, v1, v2, v3, v4, v5, v6, v7, List.length, u3, u4, Nat.reduceSub, Nat.reduceAdd, List.map]
      all_goals (simp [hg2, hg9, hg17, hg25]; done)
     ·refine qs ?_ (hg := wn hg25);refine qs ?_ (hg := wn hg25);refine qu hg25 ?_;refine qg ?_;refine qm ?_;refine EvO.nil (leafL ?_);dsimp only [setW, List.foldl, nth, u2, u1];dsimp only [Fr.putO, Fr.put, Fr.clean, Fr.ev, Fr.get, nth, V.look, u1, u2, v1, v2, v3, v4, v5, v6, v7, List.length, u3, u4, Nat.reduceSub, Nat.reduceAdd, List.map]
      all_goals (simp [hg2, hg9, hg17, hg25]; done)
 dsimp only [setW, List.foldl, nth, u2, u1];refine EvC.ret ⟨rx, _, rfl, rl hSb hH (rfl)⟩
theorem less_ev {s0 : St} (a b : List UInt8) : ∃ d, Ev pv 107 [.str a, .str b] s0 d s0 ∧ ∃ v : Bool, d = .bool v := by
 refine Ev.mkR rfl fi107 rfl rfl rfl ?_;dsimp only [u3, u4, List.length, Nat.reduceSub, Nat.reduceAdd, w1, w2];obtain ⟨hSb, hF, hH⟩ := ri s0;generalize enterSt .ro s0 = S at *;refine qq ?_;refine qj fun K hK => ?_;refine qm ?_;refine qe hK ?_;refine qq ?_;refine EvC.cutL 4 (.bool (decide ((a.length : Int) < b.length) || (((a.length : Int) == b.length) && Op.bytesLess a b))) [] ?_ (fun ff tmp => ?_)
 ·refine qm ?_;refine EvO.slen rfl rfl rfl (put_T rfl _) ?_;refine qm ?_;refine EvO.slen rfl rfl rfl (put_T rfl _) ?_;refine qg ?_;refine qm ?_;refine EvO.two 10 rfl (fun hg5 => ?_) (fun hg5 => ?_)
  ·refine qs ?_ (hg := wn hg5);refine qs ?_ (hg := wn hg5);refine qs ?_ (hg := wn hg5);refine qs ?_ (hg := wn hg5);refine qs ?_ (hg := wn hg5);refine qs ?_ (hg := wn hg5);refine qs ?_;refine qs ?_;refine qs ?_;refine qs ?_ (hg := wn hg5);refine qt hg5 ?_;refine qm ?_;refine EvO.nil (leafL ?_);dsimp only [setW, List.foldl, nth, u2, u1];dsimp only [Fr.putO, Fr.put, Fr.clean, Fr.ev, Fr.get, nth, V.look, u1, u2, v1, v2, v3, v4, v5, v6, v7, List.length, u3, u4, Nat.reduceSub, Nat.reduceAdd, List.map]
   all_goals (simp_all; done)
  ·refine qm ?_ (hg := wi hg5);refine EvO.slen (wantD_is rfl rfl rfl hg5) rfl rfl (put_T rfl _) ?_;refine qm ?_ (hg := wi hg5);refine EvO.slen (wantD_is rfl rfl rfl hg5) rfl rfl (put_T rfl _) ?_;refine qg ?_ (hg := wi hg5);refine qm ?_ (hg := wi hg5);refine EvO.two 16 rfl (fun hg11 => ?_) (fun hg11 => ?_)
   ·refine qm ?_ (hg := wi hg11);refine qm ?_ (hg := wi hg11);refine qg ?_ (hg := wi hg11);refine EvO.pickT (wantD_is rfl rfl rfl hg5) rfl hg11 (put_T rfl _) ?_;refine qu hg5 ?_;refine qm ?_;refine EvO.nil (leafL ?_);dsimp only [setW, List.foldl, nth, u2, u1];dsimp only [Fr.putO, Fr.put, Fr.clean, Fr.ev, Fr.get, nth, V.look, u1, u2, v1, v2, v3, v4, v5, v6, v7, List.length, u3, u4, Nat.reduceSub, Nat.reduceAdd, List.map]
    all_goals (simp_all; done)
   ·refine qs ?_ (hg := wn hg11);refine qs ?_ (hg := wn hg11);refine qs ?_ (hg := wn hg11);refine EvO.pickF (wantD_is rfl rfl rfl hg5) rfl hg11 (put_T rfl _) ?_;refine qu hg5 ?_;refine qm ?_;refine EvO.nil (leafL ?_);dsimp only [setW, List.foldl, nth, u2, u1];dsimp only [Fr.putO, Fr.put, Fr.clean, Fr.ev, Fr.get, nth, V.look, u1, u2, v1, v2, v3, v4, v5, v6, v7, List.length, u3, u4, Nat.reduceSub, Nat.reduceAdd, List.map]
    all_goals (simp_all; done)
 dsimp only [setW, List.foldl, nth, u2, u1];refine EvC.ret ⟨rx, _, _, rfl, rl hSb hH (rfl), ?_⟩;exact ⟨_, rfl⟩
theorem value_ev {s0 : St} (b : List UInt8) (hb : b.length ≤ 1048576) : ∃ d, Ev pv 108 [.str b] s0 d s0 ∧ ∃ (n : Int) (v : Bool), d = .tup [.int .i64 n, .bool v] := by
 refine Ev.mkR rfl fi108 rfl rfl rfl ?_;dsimp only [u3, u4, List.length, Nat.reduceSub, Nat.reduceAdd, w1, w2];obtain ⟨hSb, hF, hH⟩ := ri s0;generalize enterSt .ro s0 = S at *;refine qq ?_;refine qj fun K hK => ?_;refine qm ?_;refine qm ?_;refine qe hK ?_;refine qq ?_;refine qq ?_;refine qj fun K hK => ?_;refine qm ?_;refine EvO.slen rfl rfl rfl (by dsimp only [Fr.put, u1, u2] <;> rfl) ?_;refine qg ?_;refine qe hK ?_;refine EvC.cond (by rfl) (fun h0 => ?_) (fun h0 => ?_) <;> try simp only [decide_eq_true_eq, decide_eq_false_iff_not] at h0
 ·refine qq ?_;refine qj fun K hK => ?_;refine qm ?_;refine qm ?_;refine qe hK ?_;refine EvC.ret ⟨rx, _, _, rfl, rl hSb hH (rfl), ?_⟩;exact ⟨_, _, rfl⟩
 ·refine EvC.skip ?_;refine qq ?_;refine qj fun K hK => ?_;refine qm ?_;refine qe hK ?_;refine qq ?_;refine qq ?_;refine qj fun K hK => ?_;refine qm ?_;refine EvO.slen rfl rfl rfl (by dsimp only [Fr.put, u1, u2] <;> rfl) ?_;refine qm ?_;refine qe hK ?_;refine EvC.block ?_;refine EvC.loop (fun mm fr st => ∃ (i : Nat) (n : Int), fr.clean = ⟨12, [.str b, ixF_Pb fr 1, ixF_Pb fr 2, ixF_Pb fr 3, .int .i64 n, ixF_Pb fr 5, ixF_Pb fr 6, ixF_Pb fr 7, ixF_Pb fr 8, ixF_Pb fr 9, .int .i64 (b.length : Nat), .int .i64 (i : Nat)], []⟩ ∧ Has s0.bs.length S st [] ∧ (i + mm = b.length)) (b.length) ?_ ?_
  ·exact ⟨0, 0, rfl, hH, by omega⟩
  rintro mm fr st ⟨i, n, hfr, hH, hi⟩;rw [hfr];clear hfr;generalize ixF_Pb fr = ee;clear fr;refine qq ?_;refine qj fun K hK => ?_;refine qg ?_;refine qe hK ?_;refine qq ?_;refine EvC.cond (by rfl) (fun h1 => ?_) (fun h1 => ?_) <;> try simp only [decide_eq_true_eq, decide_eq_false_iff_not] at h1
  ·refine EvC.skip ?_
   obtain ⟨c, hc⟩ : ∃ c, b[i]? = some c := ⟨b[i]'(by omega), List.getElem?_eq_getElem _⟩
   refine qq ?_;refine EvC.block ?_;refine qq ?_;refine qj fun K hK => ?_;refine qm ?_;refine qm ?_;refine qe hK ?_;refine qj fun K hK => ?_;refine qm ?_;refine EvO.mulZ (z := wrapD .i64 (10 * n)) rfl (ev rfl) (ev rfl) rfl (put_T rfl _) ?_;refine qm ?_;refine qm ?_;refine EvO.sidx rfl (ev rfl) (ev rfl) rfl (by assumption) (put_T rfl _) ?_;refine EvO.go (d := .int .u8 (wrapD .u8 ((c.toNat : Nat) - 48))) (st1 := _) rfl rfl rfl (put_T rfl _) ?_;refine qg ?_;refine EvO.addZ (z := wrapD .i64 (wrapD .i64 (10 * n) + wrapD .i64 (wrapD .u8 ((c.toNat : Nat) - 48)))) rfl (ev rfl) (ev rfl) rfl (put_T rfl _) ?_;refine qm ?_;refine qe hK ?_;refine qj fun K hK => ?_;refine qA ?_;refine qm ?_;refine qe hK ?_;exact ⟨mm - 1, by omega, ⟨i + 1, _, rfl, hH, by omega⟩⟩
  ·refine EvC.exit ?_;refine qq ?_;refine qj fun K hK => ?_;refine qm ?_;refine qm ?_;refine qg ?_;refine qm ?_;refine qm ?_;refine qe hK ?_;refine EvC.ret ⟨rx, _, _, rfl, rl hSb hH (rfl), ?_⟩;exact ⟨_, _, rfl⟩
theorem runesD_gots : ∀ gs : List (Nat × Nat), runesD ((gs.map gotC).map (elD 2)) = some (gs.map fun g => ((g.1 : Nat) : Int))
 | [] => rfl
 | g :: gs => by
  have ih := runesD_gots gs;simp only [List.map_cons];show (match runesD ((gs.map gotC).map (elD 2)) with | some rs => some (((g.1 : Nat) : Int) :: rs) | none => none) = _;rw [ih]
theorem digS_len : ∀ (rs : List Int) (acc : List UInt8), (digS rs acc).2 ≤ rs.length ∧ (digS rs acc).1.length ≤ acc.length + (digS rs acc).2
 | [], acc => by simp [digS]
 | r :: rs, acc => by
  unfold digS
  split
  ·have h := digS_len rs (if 48 < r ∨ acc ≠ [] then acc ++ [UInt8.ofNat r.toNat] else acc);simp only [List.length_cons]
   have hl : (if 48 < r ∨ acc ≠ [] then acc ++ [UInt8.ofNat r.toNat] else acc).length ≤ acc.length + 1 := by
    split <;> simp
   omega
  ·simp
structure PrsOk (gs : List (Nat × Nat)) (pls : List Int) : Prop where
 gl : gs.length ≤ 120
 pl : pls.length = gs.length
theorem digits_ev {N k : Nat} {S s0 : St} {H : List Ent} {gs : List (Nat × Nat)} {plD : D} {s : Prs} (hgl : gs.length ≤ 120) (hi : s.i ≤ gs.length) (hne : gs ≠ []) (hH : Has N S s0 (.box k (.mem 0 false (prsC gs plD s)) :: H)) :
  ∃ d st', Ev pv 106 [.ptr k 0 0] s0 d st' ∧ ∃ (t : List UInt8) (v : Bool) (m : Nat), d = .tup [.str t, .bool v] ∧ t.length ≤ 120 ∧ s.i + m ≤ gs.length ∧ Has N S st' (.box k (.mem 0 false (prsC gs plD { s with i := s.i + m })) :: H) := by
 have hb := hH.at at0;have hw := canW_has (cs := [.int .i64 0]) hH (hH.ge at0).1 (.inr rfl);have hl := digS_len ((gs.map fun g => ((g.1 : Nat) : Int)).drop s.i) [];obtain ⟨h1, h2⟩ := hl;simp only [List.length_drop, List.length_map, List.length_nil] at h1 h2;refine ⟨_, _, Ev.prim rfl ?_, (digS ((gs.map fun g => ((g.1 : Nat) : Int)).drop s.i) []).1, decide (0 < (digS ((gs.map fun g => ((g.1 : Nat) : Int)).drop s.i) []).2), (digS ((gs.map fun g => ((g.1 : Nat) : Int)).drop s.i) []).2, rfl, by omega, by omega, hH.setBox (ver := 0) at0⟩
 have hd : decide ((gs.map fun g => ((g.1 : Nat) : Int)) ≠ [] ∧ (0 : Int) ≤ (s.i : Nat) ∧ ((s.i : Nat) : Int).toNat ≤ (gs.map fun g => ((g.1 : Nat) : Int)).length ∧ (gs.map fun g => ((g.1 : Nat) : Int)).length < 1099511627776) = true := by
  rw [decide_eq_true];refine ⟨by simpa using hne, by omega, by simp; omega, by simp; omega⟩
 show digP [.ptr k 0 0] s0 = _;simp only [digP, St.mem_of hb];show (match runesD ((gs.map gotC).map (elD 2)) with | some rs => digQ s0 k 0 0 rs (s.i : Nat) | none => none) = _;rw [runesD_gots];simp only [digQ, hd];have hwr := wr_own (cs := [.int .i64 ((s.i + (digS ((gs.map fun g => ((g.1 : Nat) : Int)).drop s.i) []).2 : Nat))]) (off := 2) hb (by show 2 + 1 ≤ 7; omega) hw;simp only [Int.toNat_natCast, Nat.zero_add];rw [hwr]
 rfl
def PartP (gs : List (Nat × Nat)) (s s' : Prs) (d1 : D) (b : Bool) : Prop :=
 s'.o = s.o ∧ s'.g = s.g ∧ s.i ≤ s'.i ∧ s'.i ≤ gs.length ∧ (d1 = .nul ∨ ∃ a, d1 = rangesV a ∧ a.length ≤ 8) ∧ (s'.e ≠ 0 ∨ s'.e = 0 ∧ s.i < s'.i ∧ ∃ a, d1 = rangesV a ∧ a.length ≤ 8 ∧ a ≠ [])
theorem wrongS_e {pls : List Int} {s : Prs} {i : Nat} {e : Int} (he : s.e = 0) (h : e ≠ 0) : (wrongS pls s i e).e ≠ 0 ∧ (wrongS pls s i e).i = s.i ∧ (wrongS pls s i e).o = s.o ∧ (wrongS pls s i e).g = s.g := by
 unfold wrongS; rw [if_pos he]; exact ⟨h, rfl, rfl, rfl⟩
theorem sign_ev {N k : Nat} {S s0 : St} {H : List Ent} {gs : List (Nat × Nat)} {plD : D} {pls : List Int} {s : Prs} (hok : PrsOk gs pls) (he : s.e = 0) (hi : s.i < gs.length) (hH : Has N S s0 (.box k (.mem 0 false (prsC gs plD s)) :: .lst plD 1 (pls.map intC) :: H)) :
  ∃ d st', Ev pv 103 [.ptr k 0 0] s0 d st' ∧ ∃ (d1 : D) (b : Bool) (s' : Prs), d = .tup [d1, .bool b] ∧ PartP gs s s' d1 b ∧ Has N S st' (.box k (.mem 0 false (prsC gs plD s')) :: .lst plD 1 (pls.map intC) :: H) := by
 have hgl := hok.gl;have hpl := hok.pl;refine Ev.mkE rfl fi103 rfl rfl rfl ?_;dsimp only [u3, u4, List.length, Nat.reduceSub, Nat.reduceAdd, w1, w2];have hH0 := hH;have hH := hH.enterRw;have hS2 : (enterSt .rw s0).bs = s0.bs := rfl;generalize enterSt .rw s0 = S2 at *;have hgr : Arg N S2 2 (gotsD gs) (gs.map gotC) := Arg.pure (fun st => gots_rows st gs);refine qq ?_;refine qj fun K hK => ?_;refine qm ?_;refine qm ?_;refine qe hK ?_;refine qq ?_;refine qj fun K hK => ?_;refine qm ?_;refine qg ?_;refine qp (o := 2) ?_;refine ql hH at0 ?_;refine qm ?_;refine qe hK ?_;refine qq ?_;refine qj fun K hK => ?_;refine qm ?_;refine qg ?_;refine qp (o := 2) ?_;refine ql hH at0 ?_;refine qA ?_;refine qg ?_;refine qp (o := 2) ?_;refine qT hH at0 fun st hH => ?_;dsimp only [u2, u1, u3, u4, setMany, u5, u6, D.cells, Nat.reduceAdd, prsC, gotC, intC, rangeC] at hH;refine qe hK ?_;refine qq ?_;refine qq ?_;refine qj fun K hK => ?_;refine qm ?_;refine qg ?_;refine qp (o := 2) ?_;refine ql hH at0 ?_;refine qm ?_;refine qg ?_;refine qp (o := 0) ?_;refine ql hH at0 ?_;refine qn ?_;simp only [List.length_map];refine qg ?_;refine qe hK ?_;refine EvC.cond (by rfl) (fun h0 => ?_) (fun h0 => ?_) <;> try simp only [decide_eq_true_eq, decide_eq_false_iff_not] at h0
 ·refine qq ?_;refine qj fun K hK => ?_;refine qm ?_;refine qm ?_;obtain ⟨_, st, hev, rfl, hH⟩ := wrong_ev (s := { s with i := s.i + 1 }) s.i 4 (by omega) hH;refine qv hev ?_;refine qe hK ?_;refine qq ?_;refine qj fun K hK => ?_;refine qm ?_;refine qm ?_;refine qe hK ?_;obtain ⟨h1, h2, h3, h4⟩ := wrongS_e (pls := pls) (s := { s with i := s.i + 1 }) (i := s.i) (e := 4) he (by decide);refine EvC.ret ⟨rx, _, _, _, rfl, leaveD_rw (rfl), ?_⟩;exact ⟨_, _, _, rfl, ⟨h3, h4, by rw [h2]; simp, by rw [h2]; exact hi, .inl rfl, .inl h1⟩, hH0.leaveRw1 hS2 hH⟩
 ·obtain ⟨g, hg⟩ : ∃ g, gs[s.i + 1]? = some g := ⟨gs[s.i + 1]'(by omega), List.getElem?_eq_getElem _⟩
  have hr1 : (gs.map gotC)[s.i + 1]? = some (gotC g) := by rw [List.getElem?_map, hg]; rfl
  have hlt := lt_get hg;refine EvC.skip ?_;refine qq ?_;refine qq ?_;refine qj fun K hK => ?_;refine qm ?_;refine qm ?_;refine qg ?_;refine qp (o := 2) ?_;refine ql hH at0 ?_;obtain ⟨_, st, hev, rfl, hH⟩ := bad_ev (s := { s with i := s.i + 1 }) (s.i + 1) hlt hH;refine qv hev ?_;refine qe hK ?_;dsimp only [prsC] at hH;refine qc (fun hb => ?_) (fun hb => ?_) <;> try simp only [cs] at hb
  ·refine qq ?_;refine qj fun K hK => ?_;refine qm ?_;refine qm ?_;refine qg ?_;refine qp (o := 2) ?_;refine ql hH at0 ?_;obtain ⟨_, st, hev, rfl, hH⟩ := wrong_ev (s := { s with i := s.i + 1 }) (s.i + 1) 4 (by omega) hH;refine qv hev ?_;refine qe hK ?_;refine qq ?_;refine qj fun K hK => ?_;refine qm ?_;refine qm ?_;refine qe hK ?_;obtain ⟨h1, h2, h3, h4⟩ := wrongS_e (pls := pls) (s := { s with i := s.i + 1 }) (i := s.i + 1) (e := 4) he (by decide);refine EvC.ret ⟨rx, _, _, _, rfl, leaveD_rw (rfl), ?_⟩;exact ⟨_, _, _, rfl, ⟨h3, h4, by rw [h2]; simp, by rw [h2]; exact hi, .inl rfl, .inl h1⟩, hH0.leaveRw1 hS2 hH⟩
  ·refine EvC.skip ?_;refine qq ?_;refine qj fun K hK => ?_;refine qm ?_;refine qg ?_;refine qp (o := 0) ?_;refine ql hH at0 ?_;refine qm ?_;refine qg ?_;refine qp (o := 2) ?_;refine ql hH at0 ?_;refine qr fun p50 hp50 => ?_;refine qf (fo := 0) fun p51 hp51 => ?_;refine qR ?_;refine qm ?_;refine qe hK ?_;refine qq ?_;refine qj fun K hK => ?_;refine qm ?_;refine qg ?_;refine qp (o := 2) ?_;refine ql hH at0 ?_;refine qA ?_;refine qg ?_;refine qp (o := 2) ?_;refine qT hH at0 fun st hH => ?_;dsimp only [u2, u1, u3, u4, setMany, u5, u6, D.cells, Nat.reduceAdd, prsC, gotC, intC, rangeC] at hH;refine qe hK ?_;refine qq ?_;refine qq ?_;refine qj fun K hK => ?_;refine qm ?_;refine qe hK ?_
   have hfin : ∀ (a : List Rg) (b : Bool), a.length ≤ 8 → a ≠ [] → PartP gs s { s with i := s.i + 1 + 1 } (rangesV a) b := fun a b h1 h2 => ⟨rfl, rfl, by show s.i ≤ s.i + 1 + 1; omega, by show s.i + 1 + 1 ≤ _; omega, .inr ⟨a, rfl, h1⟩, .inr ⟨he, by show s.i < s.i + 1 + 1; omega, a, rfl, h1, h2⟩⟩
   have hone : ∀ (r : Int), 0 ≤ r → r < 55296 → (makeR [(r, r)]).length ≤ 8 ∧ makeR [(r, r)] ≠ [] := by
    intro r h1 h2;obtain ⟨_, h3, h4⟩ := mk_ev (s0 := s0) (x := rangesV [(r, r)]) (l := [(r, r)]) (rangesV_rows _ _) (by simp);exact ⟨by simp at h3; omega, make_single h1 h2 h4⟩
   refine EvC.block ?_;refine qq ?_;refine qj fun K hK => ?_;refine qg ?_;refine qm ?_;refine qe hK ?_;refine EvC.cond (by rfl) (fun q1 => ?_) (fun q1 => ?_) <;> try simp only [beq_iff_eq, beq_eq_false_iff_ne, ne_eq] at q1
   ·refine qq ?_;refine qj fun K hK => ?_;refine qv (single_ev 10) ?_;refine qm ?_;refine qm ?_;refine qe hK ?_;refine EvC.ret ⟨rx, _, _, _, rfl, leaveD_rw (rfl), ?_⟩;exact ⟨_, _, _, rfl, hfin _ _ (hone 10 (by decide) (by decide)).1 (hone 10 (by decide) (by decide)).2, hH0.leaveRw1 hS2 hH⟩
   ·refine qq ?_;refine qj fun K hK => ?_;refine qg ?_;refine qm ?_;refine qe hK ?_;refine EvC.cond (by rfl) (fun q2 => ?_) (fun q2 => ?_) <;> try simp only [beq_iff_eq, beq_eq_false_iff_ne, ne_eq] at q2
    ·refine qq ?_;refine qj fun K hK => ?_;refine qv (single_ev 9) ?_;refine qm ?_;refine qm ?_;refine qe hK ?_;refine EvC.ret ⟨rx, _, _, _, rfl, leaveD_rw (rfl), ?_⟩;exact ⟨_, _, _, rfl, hfin _ _ (hone 9 (by decide) (by decide)).1 (hone 9 (by decide) (by decide)).2, hH0.leaveRw1 hS2 hH⟩
    ·refine qq ?_;refine qj fun K hK => ?_;refine qg ?_;refine qm ?_;refine qe hK ?_;refine EvC.cond (by rfl) (fun q3 => ?_) (fun q3 => ?_) <;> try simp only [beq_iff_eq, beq_eq_false_iff_ne, ne_eq] at q3
     ·refine qq ?_;refine qj fun K hK => ?_;refine qv (single_ev 13) ?_;refine qm ?_;refine qm ?_;refine qe hK ?_;refine EvC.ret ⟨rx, _, _, _, rfl, leaveD_rw (rfl), ?_⟩;exact ⟨_, _, _, rfl, hfin _ _ (hone 13 (by decide) (by decide)).1 (hone 13 (by decide) (by decide)).2, hH0.leaveRw1 hS2 hH⟩
     ·refine qq ?_;refine qj fun K hK => ?_;refine qg ?_;refine qm ?_;refine qe hK ?_;refine EvC.cond (by rfl) (fun q4 => ?_) (fun q4 => ?_) <;> try simp only [beq_iff_eq, beq_eq_false_iff_ne, ne_eq] at q4
      ·refine qq ?_;refine qj fun K hK => ?_;refine EvO.ones (qs := [(0, _), (1, _)]) rfl rfl rfl rfl ⟨rfl, (ev rfl), (by rfl), rfl, (ev rfl), (by rfl), trivial⟩ (by intro q hq; simp only [List.mem_cons, List.not_mem_nil, or_false] at hq; rcases hq with rfl | rfl <;> exact ⟨rfl, by exact Nat.le_of_ble_eq_true rfl⟩) (by show List.foldl _ [_, _] _ = _; dsimp only [List.foldl_cons, List.foldl_nil, u2, u1] <;> rfl) (put_T rfl _) ?_;refine qh (s := 2) (vs := [_]) hH fun k73 st hk73 hH => ?_;obtain ⟨hev, hl, hmk⟩ := mk_ev (l := [(48, 57)]) (hH.rows at0) (by simp);refine qv hev ?_;refine qm ?_;refine qm ?_;refine qe hK ?_;refine EvC.ret ⟨rx, _, _, _, rfl, leaveD_rw (rfl), ?_⟩;exact ⟨_, _, _, rfl, hfin _ _ (by simp at hl; omega) (make_ne (r := 48) (by decide) (by decide) ⟨_, List.mem_cons_self .., by decide, by decide⟩ hmk), hH0.leaveRw1 hS2 (hH.drop 1)⟩
      ·refine qq ?_;refine qj fun K hK => ?_;refine qg ?_;refine qm ?_;refine qe hK ?_;refine EvC.cond (by rfl) (fun q5 => ?_) (fun q5 => ?_) <;> try simp only [beq_iff_eq, beq_eq_false_iff_ne, ne_eq] at q5
       ·refine qq ?_;refine qj fun K hK => ?_;refine EvO.ones (qs := [(0, _), (1, _)]) rfl rfl rfl rfl ⟨rfl, (ev rfl), (by rfl), rfl, (ev rfl), (by rfl), trivial⟩ (by intro q hq; simp only [List.mem_cons, List.not_mem_nil, or_false] at hq; rcases hq with rfl | rfl <;> exact ⟨rfl, by exact Nat.le_of_ble_eq_true rfl⟩) (by show List.foldl _ [_, _] _ = _; dsimp only [List.foldl_cons, List.foldl_nil, u2, u1] <;> rfl) (put_T rfl _) ?_;refine EvO.ones (qs := [(0, _), (1, _)]) rfl rfl rfl rfl ⟨rfl, (ev rfl), (by rfl), rfl, (ev rfl), (by rfl), trivial⟩ (by intro q hq; simp only [List.mem_cons, List.not_mem_nil, or_false] at hq; rcases hq with rfl | rfl <;> exact ⟨rfl, by exact Nat.le_of_ble_eq_true rfl⟩) (by show List.foldl _ [_, _] _ = _; dsimp only [List.foldl_cons, List.foldl_nil, u2, u1] <;> rfl) (put_T rfl _) ?_;refine EvO.ones (qs := [(0, _), (1, _)]) rfl rfl rfl rfl ⟨rfl, (ev rfl), (by rfl), rfl, (ev rfl), (by rfl), trivial⟩ (by intro q hq; simp only [List.mem_cons, List.not_mem_nil, or_false] at hq; rcases hq with rfl | rfl <;> exact ⟨rfl, by exact Nat.le_of_ble_eq_true rfl⟩) (by show List.foldl _ [_, _] _ = _; dsimp only [List.foldl_cons, List.foldl_nil, u2, u1] <;> rfl) (put_T rfl _) ?_;refine qh (s := 2) (vs := [_, _, _]) hH fun k80 st hk80 hH => ?_;obtain ⟨hev, hl, hmk⟩ := mk_ev (l := [(9, 10), (13, 13), (32, 32)]) (hH.rows at0) (by simp);refine qv hev ?_;refine qm ?_;refine qm ?_;refine qe hK ?_;refine EvC.ret ⟨rx, _, _, _, rfl, leaveD_rw (rfl), ?_⟩;exact ⟨_, _, _, rfl, hfin _ _ (by simp at hl; omega) (make_ne (r := 9) (by decide) (by decide) ⟨_, List.mem_cons_self .., by decide, by decide⟩ hmk), hH0.leaveRw1 hS2 (hH.drop 1)⟩
       ·refine qq ?_;refine qj fun K hK => ?_;refine qg ?_;refine qm ?_;refine qe hK ?_;refine EvC.cond (by rfl) (fun q6 => ?_) (fun q6 => ?_) <;> try simp only [beq_iff_eq, beq_eq_false_iff_ne, ne_eq] at q6
        ·refine qq ?_;refine qj fun K hK => ?_;refine EvO.ones (qs := [(0, _), (1, _)]) rfl rfl rfl rfl ⟨rfl, (ev rfl), (by rfl), rfl, (ev rfl), (by rfl), trivial⟩ (by intro q hq; simp only [List.mem_cons, List.not_mem_nil, or_false] at hq; rcases hq with rfl | rfl <;> exact ⟨rfl, by exact Nat.le_of_ble_eq_true rfl⟩) (by show List.foldl _ [_, _] _ = _; dsimp only [List.foldl_cons, List.foldl_nil, u2, u1] <;> rfl) (put_T rfl _) ?_;refine EvO.ones (qs := [(0, _), (1, _)]) rfl rfl rfl rfl ⟨rfl, (ev rfl), (by rfl), rfl, (ev rfl), (by rfl), trivial⟩ (by intro q hq; simp only [List.mem_cons, List.not_mem_nil, or_false] at hq; rcases hq with rfl | rfl <;> exact ⟨rfl, by exact Nat.le_of_ble_eq_true rfl⟩) (by show List.foldl _ [_, _] _ = _; dsimp only [List.foldl_cons, List.foldl_nil, u2, u1] <;> rfl) (put_T rfl _) ?_;refine EvO.ones (qs := [(0, _), (1, _)]) rfl rfl rfl rfl ⟨rfl, (ev rfl), (by rfl), rfl, (ev rfl), (by rfl), trivial⟩ (by intro q hq; simp only [List.mem_cons, List.not_mem_nil, or_false] at hq; rcases hq with rfl | rfl <;> exact ⟨rfl, by exact Nat.le_of_ble_eq_true rfl⟩) (by show List.foldl _ [_, _] _ = _; dsimp only [List.foldl_cons, List.foldl_nil, u2, u1] <;> rfl) (put_T rfl _) ?_;refine EvO.ones (qs := [(0, _), (1, _)]) rfl rfl rfl rfl ⟨rfl, (ev rfl), (by rfl), rfl, (ev rfl), (by rfl), trivial⟩ (by intro q hq; simp only [List.mem_cons, List.not_mem_nil, or_false] at hq; rcases hq with rfl | rfl <;> exact ⟨rfl, by exact Nat.le_of_ble_eq_true rfl⟩) (by show List.foldl _ [_, _] _ = _; dsimp only [List.foldl_cons, List.foldl_nil, u2, u1] <;> rfl) (put_T rfl _) ?_;refine qh (s := 2) (vs := [_, _, _, _]) hH fun k88 st hk88 hH => ?_;obtain ⟨hev, hl, hmk⟩ := mk_ev (l := [(48, 57), (65, 90), (95, 95), (97, 122)]) (hH.rows at0) (by simp);refine qv hev ?_;refine qm ?_;refine qm ?_;refine qe hK ?_;refine EvC.ret ⟨rx, _, _, _, rfl, leaveD_rw (rfl), ?_⟩;exact ⟨_, _, _, rfl, hfin _ _ (by simp at hl; omega) (make_ne (r := 48) (by decide) (by decide) ⟨_, List.mem_cons_self .., by decide, by decide⟩ hmk), hH0.leaveRw1 hS2 (hH.drop 1)⟩
        ·refine EvC.skip ?_;refine qq ?_;refine qq ?_;refine qj fun K hK => ?_;refine qm ?_;refine qv (mark_ev _) ?_;refine qg ?_;refine qe hK ?_;refine EvC.cond (by rfl) (fun q7 => ?_) (fun q7 => ?_) <;> try simp only [decide_eq_true_eq, decide_eq_false_iff_not, Bool.not_eq_true', Bool.not_eq_false'] at q7
         ·refine qq ?_;refine qj fun K hK => ?_;refine qm ?_;refine qm ?_;obtain ⟨_, st, hev, rfl, hH⟩ := wrong_ev (s := { s with i := s.i + 1 + 1 }) s.i 4 (by omega) hH;refine qv hev ?_;refine qe hK ?_;refine qq ?_;refine qj fun K hK => ?_;refine qm ?_;refine qm ?_;refine qe hK ?_;obtain ⟨h1, h2, h3, h4⟩ := wrongS_e (pls := pls) (s := { s with i := s.i + 1 + 1 }) (i := s.i) (e := 4) he (by decide);refine EvC.ret ⟨rx, _, _, _, rfl, leaveD_rw (rfl), ?_⟩;exact ⟨_, _, _, rfl, ⟨h3, h4, by rw [h2]; show s.i ≤ s.i + 1 + 1; omega, by rw [h2]; show s.i + 1 + 1 ≤ _; omega, .inl rfl, .inl h1⟩, hH0.leaveRw1 hS2 hH⟩
         ·refine EvC.skip ?_;refine qq ?_;refine qj fun K hK => ?_;refine qm ?_;refine qv (single_ev _) ?_;refine qm ?_;refine qm ?_;refine qe hK ?_;have hm := hone ((g.1 : Nat) : Int) (by omega) (by omega);refine EvC.ret ⟨rx, _, _, _, rfl, leaveD_rw (rfl), ?_⟩;exact ⟨_, _, _, rfl, hfin _ _ hm.1 hm.2, hH0.leaveRw1 hS2 hH⟩
structure Nod where
  op : Int
  rd : D
  rs : List Rg
  mn : Int
  mx : Int
  lz : Bool
  cap : Int
  kids : Int
def nodC (n : Nod) : List D := [.int .i64 n.op, n.rd, .int .i64 n.mn, .int .i64 n.mx, .bool n.lz, .int .i64 n.cap, .int .i64 n.kids]
def Nod.ok (n : Nod) : Prop := SlD n.rd 2 (n.rs.map rangeC) ∧ n.rs.length ≤ 1048576 ∧ n.kids ≤ 9223372036854775807
structure Nl where
  d : D
  l : List Nod
structure Nl.ok (x : Nl) : Prop where
  c : SlD x.d 7 (x.l.map nodC)
  i : ∀ n ∈ x.l, n.ok
  nl : x.l.length ≤ 1048576
theorem nod_get {l : List Nod} {i : Nat} {q : Nod} (h : l[i]? = some q) : (l.map nodC)[i]? = some (nodC q) := by rw [List.getElem?_map, h]; rfl
mutual
inductive Tr where
  | mk (n : Nod) (ks : Trs)
inductive Trs where
  | nil
  | cons (t : Tr) (ts : Trs)
end
def Trs.len : Trs → Nat
  | .nil => 0
  | .cons _ ts => ts.len + 1
mutual
def Tr.flat : Tr → List Nod
  | .mk n ks => n :: ks.flat
def Trs.flat : Trs → List Nod
  | .nil => []
  | .cons t ts => t.flat ++ ts.flat
end
def nodOk (n : Nod) (nk : Nat) : Prop :=
  n.kids = (nk : Int) ∧ (((n.op = 1 ∨ n.op = 7 ∨ n.op = 8) ∧ nk = 0) ∨ (n.op = 2 ∧ nk = 0) ∨ ((n.op = 3 ∨ n.op = 4) ∧ 2 ≤ nk) ∨
    (n.op = 5 ∧ nk = 1 ∧ 0 ≤ n.mn ∧ n.mn ≤ 30 ∧ (n.mx = -1 ∨ (n.mn ≤ n.mx ∧ n.mx ≤ 30))) ∨ (n.op = 6 ∧ nk = 1 ∧ 1 ≤ n.cap ∧ n.cap ≤ 4))
mutual
def Tr.ok : Tr → Prop
  | .mk n ks => nodOk n ks.len ∧ ks.ok
def Trs.ok : Trs → Prop
  | .nil => True
  | .cons t ts => t.ok ∧ ts.ok
end
def nodSz (n : Nod) (s k : Nat) : Nat :=
  if n.op = 2 ∨ n.op = 7 ∨ n.op = 8 then 1
  else if n.op = 4 then s + 2 * (k - 1)
  else if n.op = 6 then s + 2
  else if n.op = 5 then (if n.mx = -1 then n.mn.toNat * s + s + 2 else n.mn.toNat * s + (n.mx.toNat - n.mn.toNat) * (s + 1))
  else s
mutual
def Tr.sz : Tr → Nat
  | .mk n ks => nodSz n ks.sz ks.len
def Trs.sz : Trs → Nat
  | .nil => 0
  | .cons t ts => t.sz + ts.sz
end
def mkI (op x y : Int) (rs : List Rg) : PIns := ⟨op, x, y, .sl ((rs.map rangeC).map (elD 2)), rs⟩
def spI (s o : Nat) (lz : Bool) : PIns := if lz = true then mkI 2 (o : Nat) ((s + 1 : Nat) : Int) [] else mkI 2 ((s + 1 : Nat) : Int) (o : Nat) []
def jpI (e : Nat) : PIns := mkI 3 (e : Nat) 0 []
def repC (c : Nat → List PIns) (z : Nat) : Nat → Nat → List PIns
  | 0, _ => []
  | k + 1, b => c b ++ repC c z k (b + z)
def optC (sp : Nat → PIns) (c : Nat → List PIns) (z : Nat) : Nat → Nat → List PIns
  | 0, _ => []
  | k + 1, b => sp b :: (c (b + 1) ++ optC sp c z k (b + 1 + z))
def optJ (z : Nat) : Nat → Nat → List Nat
  | 0, _ => []
  | k + 1, b => b :: optJ z k (b + 1 + z)
def rptC (n : Nod) (c : Nat → List PIns) (z b : Nat) : List PIns :=
  if n.mx = -1 then repC c z n.mn.toNat b ++ (spI (b + n.mn.toNat * z) (b + n.mn.toNat * z + z + 2) n.lz :: (c (b + n.mn.toNat * z + 1) ++ [jpI (b + n.mn.toNat * z)]))
  else repC c z n.mn.toNat b ++ optC (fun s => spI s (b + n.mn.toNat * z + (n.mx.toNat - n.mn.toNat) * (z + 1)) n.lz) c z (n.mx.toNat - n.mn.toNat) (b + n.mn.toNat * z)
mutual
def codeT : Tr → Nat → List PIns
  | .mk n ks, b =>
    if n.op = 2 then [mkI 1 0 0 n.rs]
    else if n.op = 7 then [mkI 5 0 0 []]
    else if n.op = 8 then [mkI 6 0 0 []]
    else if n.op = 3 then catT ks b
    else if n.op = 4 then altT (jpI (b + nodSz n ks.sz ks.len)) ks b
    else if n.op = 5 then rptC n (catT ks) ks.sz b
    else if n.op = 6 then mkI 4 (2 * n.cap) 0 [] :: (catT ks (b + 1) ++ [mkI 4 (2 * n.cap + 1) 0 []])
    else []
def catT : Trs → Nat → List PIns
  | .nil, _ => []
  | .cons t ts, b => codeT t b ++ catT ts (b + t.sz)
def altT (jp : PIns) : Trs → Nat → List PIns
  | .nil, _ => []
  | .cons t ts, b => if ts.len = 0 then codeT t b else spI b (b + 1 + t.sz + 1) false :: (codeT t (b + 1) ++ jp :: altT jp ts (b + t.sz + 2))
end
def altJ : Trs → Nat → List Nat
  | .nil, _ => []
  | .cons t ts, b => if ts.len = 0 then [] else (b + 1 + t.sz) :: altJ ts (b + t.sz + 2)
theorem repC_len {c : Nat → List PIns} {z : Nat} (hc : ∀ b, (c b).length = z) : ∀ k b, (repC c z k b).length = k * z
  | 0, b => by simp [repC]
  | k + 1, b => by rw [repC, List.length_append, hc, repC_len hc k, Nat.add_mul]; omega
theorem optC_len {sp : Nat → PIns} {c : Nat → List PIns} {z : Nat} (hc : ∀ b, (c b).length = z) : ∀ k b, (optC sp c z k b).length = k * (z + 1)
  | 0, b => by simp [optC]
  | k + 1, b => by rw [optC, List.length_cons, List.length_append, hc, optC_len hc k, Nat.add_mul]; omega
theorem rptC_len {n : Nod} {c : Nat → List PIns} {z b : Nat} (hc : ∀ b, (c b).length = z) (h : n.op = 5) : (rptC n c z b).length = nodSz n z 1 := by
  unfold rptC nodSz
  rw [if_neg (show ¬ (n.op = 2 ∨ n.op = 7 ∨ n.op = 8) by omega), if_neg (show ¬ n.op = 4 by omega), if_neg (show ¬ n.op = 6 by omega), if_pos h]
  split
  · rw [List.length_append, repC_len hc, List.length_cons, List.length_append, hc]; simp only [List.length_cons, List.length_nil]; omega
  · rw [List.length_append, repC_len hc, optC_len hc]
theorem Trs.len_one {ks : Trs} (h : ks.len = 1) : ∃ t, ks = .cons t .nil := by
  cases ks with
  | nil => simp [Trs.len] at h
  | cons t ts => cases ts with
    | nil => exact ⟨t, rfl⟩
    | cons u us => simp [Trs.len] at h
theorem Trs.len_nil {ks : Trs} (h : ks.len = 0) : ks = .nil := by
  cases ks with
  | nil => rfl
  | cons t ts => simp [Trs.len] at h
mutual
theorem codeT_len : ∀ (t : Tr) (b : Nat), t.ok → (codeT t b).length = t.sz
  | .mk n ks, b, h => by
    simp only [Tr.ok] at h
    obtain ⟨h1, h2⟩ := h
    have hc := fun b => catT_len ks b h2
    have ha := fun jp b => altT_len jp ks b h2
    simp only [codeT, Tr.sz]
    obtain ⟨_, ⟨h3, h4⟩ | ⟨h3, h4⟩ | ⟨h3, h4⟩ | ⟨h3, h4, h5⟩ | ⟨h3, h4, h5⟩⟩ := h1
    · have hk := Trs.len_nil h4
      subst hk
      by_cases q7 : n.op = 7
      · simp [q7, nodSz]
      · by_cases q8 : n.op = 8
        · simp [q8, nodSz]
        · have q1 : n.op = 1 := by omega
          simp [q1, nodSz, Trs.sz]
    · simp [h3, nodSz]
    · rcases h3 with h3 | h3
      · simp [h3, nodSz, hc]
      · simp [h3, nodSz, ha]
    · have := rptC_len (n := n) (b := b) hc h3
      simp only [h3] at this ⊢
      simp only [show ¬ ((5 : Int) = 2) by decide, show ¬ ((5 : Int) = 7) by decide, show ¬ ((5 : Int) = 8) by decide, show ¬ ((5 : Int) = 3) by decide, show ¬ ((5 : Int) = 4) by decide, if_false, if_true]
      rw [this, h4]
    · simp [h3, nodSz, hc]
theorem catT_len : ∀ (ts : Trs) (b : Nat), ts.ok → (catT ts b).length = ts.sz
  | .nil, b, _ => by simp [catT, Trs.sz]
  | .cons t ts, b, h => by
    simp only [Trs.ok] at h
    simp only [catT, Trs.sz, List.length_append]
    rw [codeT_len t b h.1, catT_len ts _ h.2]
theorem altT_len (jp : PIns) : ∀ (ts : Trs) (b : Nat), ts.ok → (altT jp ts b).length = ts.sz + 2 * (ts.len - 1)
  | .nil, b, _ => by simp [altT, Trs.sz, Trs.len]
  | .cons t ts, b, h => by
    simp only [Trs.ok] at h
    have h1 := altT_len jp ts (b + t.sz + 2) h.2
    simp only [altT, Trs.sz, Trs.len]
    by_cases q : ts.len = 0
    · rw [if_pos q, codeT_len t b h.1, q]
      have := Trs.len_nil q
      subst this
      simp [Trs.sz]
    · rw [if_neg q, List.length_cons, List.length_append, List.length_cons, codeT_len t _ h.1, h1]
      omega
end
def setAll (f : Nat → PIns) (c : List PIns) (l : List Nat) : List PIns := l.foldl (fun c j => c.set j (f j)) c
theorem set_mid {α : Type} (pre post : List α) (x y : α) : (pre ++ x :: post).set pre.length y = pre ++ y :: post := by
  rw [List.set_append_right _ _ (Nat.le_refl _), Nat.sub_self]; rfl
theorem get_mid {α : Type} (pre post : List α) (x : α) : (pre ++ x :: post)[pre.length]? = some x := by
  rw [List.getElem?_append_right (Nat.le_refl _), Nat.sub_self]; rfl
theorem opt_patch {sp : Nat → PIns} {c : Nat → List PIns} {z : Nat} (hc : ∀ b, (c b).length = z) {i0 : PIns} : ∀ (k b : Nat) (pre post : List PIns), pre.length = b → setAll sp (pre ++ optC (fun _ => i0) c z k b ++ post) (optJ z k b) = pre ++ optC sp c z k b ++ post ∧ ∀ j ∈ optJ z k b, (pre ++ optC (fun _ => i0) c z k b ++ post)[j]? = some i0
  | 0, b, pre, post, _ => ⟨rfl, fun j hj => by cases hj⟩
  | k + 1, b, pre, post, h => by
    have ih := opt_patch (sp := sp) hc (i0 := i0) k (b + 1 + z) (pre ++ i0 :: c (b + 1)) post (by rw [List.length_append, List.length_cons, hc]; omega)
    have ih2 := opt_patch (sp := sp) hc (i0 := i0) k (b + 1 + z) (pre ++ sp b :: c (b + 1)) post (by rw [List.length_append, List.length_cons, hc]; omega)
    simp only [optC, optJ]
    have e : pre ++ i0 :: (c (b + 1) ++ optC (fun _ => i0) c z k (b + 1 + z)) ++ post = pre ++ i0 :: (c (b + 1) ++ optC (fun _ => i0) c z k (b + 1 + z) ++ post) := by simp
    have e2 : pre ++ i0 :: c (b + 1) ++ optC (fun _ => i0) c z k (b + 1 + z) ++ post = pre ++ i0 :: (c (b + 1) ++ optC (fun _ => i0) c z k (b + 1 + z) ++ post) := by simp
    refine ⟨?_, fun j hj => ?_⟩
    · unfold setAll at ih2 ⊢
      rw [List.foldl_cons, e]
      have hs : (pre ++ i0 :: (c (b + 1) ++ optC (fun _ => i0) c z k (b + 1 + z) ++ post)).set b (sp b) = pre ++ sp b :: c (b + 1) ++ optC (fun _ => i0) c z k (b + 1 + z) ++ post := by
        rw [← h, set_mid]; simp
      rw [hs, ih2.1]; simp
    · rw [e]
      rcases List.mem_cons.1 hj with rfl | hj
      · rw [← h]; exact get_mid _ _ _
      · rw [← e2]; exact ih.2 j hj
theorem alt_patch {jp i0 : PIns} : ∀ (ts : Trs) (b : Nat) (pre post : List PIns), ts.ok → pre.length = b → setAll (fun _ => jp) (pre ++ altT i0 ts b ++ post) (altJ ts b) = pre ++ altT jp ts b ++ post ∧ ∀ j ∈ altJ ts b, (pre ++ altT i0 ts b ++ post)[j]? = some i0
  | .nil, b, pre, post, _, _ => ⟨by simp [altT, altJ, setAll], fun j hj => by simp [altJ] at hj⟩
  | .cons t ts, b, pre, post, hok, h => by
    simp only [Trs.ok] at hok
    by_cases q : ts.len = 0
    · simp only [altT, altJ, if_pos q]
      exact ⟨rfl, fun j hj => by cases hj⟩
    · simp only [altT, altJ, if_neg q]
      generalize spI b (b + 1 + t.sz + 1) false = sp
      have hcl := codeT_len t (b + 1) hok.1
      have ih := alt_patch (jp := jp) (i0 := i0) ts (b + t.sz + 2) (pre ++ sp :: (codeT t (b + 1) ++ [i0])) post hok.2 (by simp only [List.length_append, List.length_cons, List.length_nil, hcl]; omega)
      have ih2 := alt_patch (jp := jp) (i0 := i0) ts (b + t.sz + 2) (pre ++ sp :: (codeT t (b + 1) ++ [jp])) post hok.2 (by simp only [List.length_append, List.length_cons, List.length_nil, hcl]; omega)
      generalize altT i0 ts (b + t.sz + 2) = A at *
      have e : pre ++ sp :: (codeT t (b + 1) ++ i0 :: A) ++ post = (pre ++ sp :: codeT t (b + 1)) ++ i0 :: (A ++ post) := by simp
      have hl : (pre ++ sp :: codeT t (b + 1)).length = b + 1 + t.sz := by simp only [List.length_append, List.length_cons, hcl]; omega
      refine ⟨?_, fun j hj => ?_⟩
      · unfold setAll at ih2 ⊢
        rw [List.foldl_cons, e, ← hl, set_mid]
        have := ih2.1
        simp only [List.append_assoc, List.cons_append, List.nil_append] at this ⊢
        exact this
      · rw [e]
        rcases List.mem_cons.1 hj with rfl | hj
        · rw [← hl]; exact get_mid _ _ _
        · have := ih.2 j hj
          simp only [List.append_assoc, List.cons_append, List.nil_append] at this ⊢
          exact this
def Seg {α : Type} (L : List α) (at_ : Nat) (M : List α) : Prop := ∃ post, L.drop at_ = M ++ post
theorem Seg.head {α : Type} {L M : List α} {a : α} {at_ : Nat} (h : Seg L at_ (a :: M)) : L[at_]? = some a := by
  obtain ⟨post, h⟩ := h
  have := congrArg (·[0]?) h
  simpa using this
theorem Seg.tail {α : Type} {L M : List α} {a : α} {at_ : Nat} (h : Seg L at_ (a :: M)) : Seg L (at_ + 1) M := by
  obtain ⟨post, h⟩ := h
  refine ⟨post, ?_⟩
  rw [← List.drop_drop, h]; rfl
theorem Seg.left {α : Type} {L M M' : List α} {at_ : Nat} (h : Seg L at_ (M ++ M')) : Seg L at_ M := by
  obtain ⟨post, h⟩ := h
  exact ⟨M' ++ post, by rw [h, List.append_assoc]⟩
theorem Seg.right {α : Type} {L M M' : List α} {at_ : Nat} (h : Seg L at_ (M ++ M')) : Seg L (at_ + M.length) M' := by
  obtain ⟨post, h⟩ := h
  refine ⟨post, ?_⟩
  rw [← List.drop_drop, h, List.append_assoc, List.drop_left]
theorem Seg.le {α : Type} {L M : List α} {at_ : Nat} (h : Seg L at_ M) (hM : M ≠ []) : at_ + M.length ≤ L.length := by
  obtain ⟨post, h⟩ := h
  have := congrArg List.length h
  simp only [List.length_drop, List.length_append] at this
  have : 0 < M.length := by cases M with | nil => exact absurd rfl hM | cons _ _ => simp
  omega
theorem Seg.all {α : Type} (L : List α) : Seg L 0 L := ⟨[], by simp⟩
mutual
def Tr.zs : Tr → List Int
  | .mk n ks => ((min (nodSz n ks.sz ks.len) 401 : Nat) : Int) :: ks.zs
def Trs.zs : Trs → List Int
  | .nil => []
  | .cons t ts => t.zs ++ ts.zs
end
mutual
def Tr.es : Tr → Nat → List Int
  | .mk n ks, at_ => ((at_ + 1 + ks.flat.length : Nat) : Int) :: ks.es (at_ + 1)
def Trs.es : Trs → Nat → List Int
  | .nil, _ => []
  | .cons t ts, at_ => t.es at_ ++ ts.es (at_ + t.flat.length)
end
mutual
theorem Tr.zs_len : ∀ t : Tr, t.zs.length = t.flat.length
  | .mk n ks => by simp [Tr.zs, Tr.flat, Trs.zs_len ks]
theorem Trs.zs_len : ∀ ts : Trs, ts.zs.length = ts.flat.length
  | .nil => rfl
  | .cons t ts => by simp [Trs.zs, Trs.flat, Tr.zs_len t, Trs.zs_len ts]
end
mutual
theorem Tr.es_len : ∀ (t : Tr) (a : Nat), (t.es a).length = t.flat.length
  | .mk n ks, a => by simp [Tr.es, Tr.flat, Trs.es_len ks]
theorem Trs.es_len : ∀ (ts : Trs) (a : Nat), (ts.es a).length = ts.flat.length
  | .nil, _ => rfl
  | .cons t ts, a => by simp [Trs.es, Trs.flat, Tr.es_len t, Trs.es_len ts]
end
theorem Tr.flat_pos (t : Tr) : 0 < t.flat.length := by cases t; simp [Tr.flat]
theorem Trs.len_le : ∀ ts : Trs, ts.len ≤ ts.flat.length
  | .nil => Nat.le_refl _
  | .cons t ts => by
    have h1 := Trs.len_le ts
    have h2 := t.flat_pos
    simp only [Trs.len, Trs.flat, List.length_append]; omega
end Go.Proofs.Ytbdilgkfnacahaa
