/-
 The parser of patterns: one thing; how often.
-/
import Derived.Test.YtbdilgkfnacahaaG8
import Derived.Test.YtbdilgkfnacahaaG6
import Derived.Test.YtbdilgkfnacahaaG7
import Derived.Test.YtbdilgkfnacahaaG5
set_option maxRecDepth 100000
set_option maxHeartbeats 4000000
set_option linter.unusedSimpArgs false
set_option linter.unusedVariables false
namespace Go.Proofs.Ytbdilgkfnacahaa
open Go.V Go
def ixF_Pi (fr : Go.V.Fr) (k : Nat) : Go.V.D := Go.V.nth .junk fr.loc k
theorem skip_no {gs : List (Nat × Nat)} {s : Prs} {r : Int} (h : isS gs s.i r = false) : skipS gs s r = s := by
 unfold skipS; rw [if_neg (by rw [h]; simp)]
theorem skip_yes {gs : List (Nat × Nat)} {s : Prs} {r : Int} (h : isS gs s.i r = true) : (skipS gs s r).i = s.i + 1 := by
 unfold skipS; rw [if_pos h]
theorem atom_ev {m : Nat} (hA : ∀ m', m' + 1 = m → AltSpec m') {N k : Nat} {S s0 : St} {H : List Ent} {gs : List (Nat × Nat)} {plD : D} {pls : List Int} {s : Prs} (hok : PrsOk gs pls) (he : s.e = 0) (hi : s.i < gs.length) (hg : s.g ≤ 4) (ho : s.o + m = 20) (hH : Has N S s0 (.box k (.mem 0 false (prsC gs plD s)) :: .lst plD 1 (pls.map intC) :: H)) :
  ∃ d st', Ev pv 94 [.ptr k 0 0] s0 d st' ∧ ∃ (s' : Prs), NodesP gs s s' d 2 ∧ Has N S st' (.box k (.mem 0 false (prsC gs plD s')) :: .lst plD 1 (pls.map intC) :: H) := by
 have hgl := hok.gl;have hpl := hok.pl;refine Ev.mkE rfl fi94 rfl rfl rfl ?_;dsimp only [u3, u4, List.length, Nat.reduceSub, Nat.reduceAdd, w1, w2];have hH0 := hH;have hH := hH.enterRw;have hS2 : (enterSt .rw s0).bs = s0.bs := rfl;generalize enterSt .rw s0 = S2 at *;have hgr : Arg N S2 2 (gotsD gs) (gs.map gotC) := Arg.pure (fun st => gots_rows st gs)
 obtain ⟨g, hgg⟩ : ∃ g, gs[s.i]? = some g := ⟨gs[s.i]'hi, List.getElem?_eq_getElem _⟩
 have hr1 : (gs.map gotC)[s.i]? = some (gotC g) := by rw [List.getElem?_map, hgg]; rfl
 have hwr : ∀ (st : St), Has N S2 st (.box k (.mem 0 false (prsC gs plD s)) :: .lst plD 1 (pls.map intC) :: H) → ∃ d st', Ev pv 55 [.ptr k 0 0, .int .i64 (s.i : Nat), .int .i64 4] st d st' ∧ d = .sl [] ∧ ∃ s4, NodesP gs s s4 (.sl []) 2 ∧ Has N S2 st' (.box k (.mem 0 false (prsC gs plD s4)) :: .lst plD 1 (pls.map intC) :: H) := by
  intro st hH;obtain ⟨d, st', hev, h6, hH⟩ := wrong_ev (s := s) s.i 4 (by omega) hH;obtain ⟨w1, w2, w3, w4⟩ := wrongS_e (pls := pls) (s := s) (i := s.i) (e := 4) he (by decide);exact ⟨d, st', hev, h6, _, nodes_nil w3 (by omega) (by omega) (by omega) w1, hH⟩
 have hone : ∀ (st : St) (s1 : Prs) (op : Int) (w : D) (a : List Rg) (kk : Nat), (w = rangesV a ∨ w = .nul ∧ a = []) → a.length ≤ 1048576 → s1.o = s.o → s1.g ≤ 4 → s.i < s1.i → s1.i ≤ gs.length → S2.bs.length ≤ kk → Has N S2 st (.lst (.win kk 0 0 1 7) 7 [[.int .i64 op, w, .int .i64 0, .int .i64 0, .bool false, .int .i64 0, .int .i64 0]] :: .box k (.mem 0 false (prsC gs plD s1)) :: .lst plD 1 (pls.map intC) :: H) →
   ∃ d st', leaveD .rw false s0 st (.win kk 0 0 1 7) = some (d, st') ∧ ∃ (s' : Prs), NodesP gs s s' d 2 ∧ Has N S st' (.box k (.mem 0 false (prsC gs plD s')) :: .lst plD 1 (pls.map intC) :: H) := by
  intro st s1 op w a kk hw ha h1 h2 h3 h4 hk hH;have hfz := has_freeze1 hH at0 (L := s0.bs.length) hw (fun k hk => by simp only [D.ref] at hk; rw [← hS2]; omega);refine ⟨_, _, leaveD_rw hfz, s1, ⟨h1, h2, by omega, h4, _, rfl, mk_v ha (by omega), by simp, ?_⟩, hH0.leaveRw1 hS2 (hH.drop 1)⟩
  by_cases he : s1.e = 0
  ·exact .inr ⟨he, by simp only [List.length_cons, List.length_nil]; omega⟩
  ·exact .inl he
 refine qq ?_;refine qj fun K hK => ?_;refine qm ?_;refine qe hK ?_;refine qq ?_;refine qj fun K hK => ?_;refine qm ?_;refine qg ?_;refine qp (o := 2) ?_;refine ql hH at0 ?_;refine qm ?_;refine qe hK ?_;refine qq ?_;refine qq ?_;refine qj fun K hK => ?_;refine qm ?_;refine qm ?_;obtain ⟨_, st, hev, rfl, hH⟩ := bad_ev (s := s) s.i hi hH;refine qv hev ?_;refine qe hK ?_;refine qc (fun hb => ?_) (fun hb => ?_) <;> try simp only [cs] at hb
 ·refine qq ?_;refine qj fun K hK => ?_;refine qm ?_;refine qm ?_;obtain ⟨_, st, hev, rfl, s4, hN, hH⟩ := hwr _ hH;refine qv hev ?_;refine qm ?_;refine qe hK ?_;refine EvC.ret ⟨rx, _, _, _, rfl, leaveD_rw (rfl), ?_⟩;exact ⟨s4, hN, hH0.leaveRw1 hS2 hH⟩
 refine EvC.skip ?_;refine qq ?_;refine qj fun K hK => ?_;refine qm ?_;refine qg ?_;refine qp (o := 0) ?_;refine ql hH at0 ?_;refine qm ?_;refine qr fun p22 hp22 => ?_;refine qf (fo := 0) fun p23 hp23 => ?_;refine qR ?_;refine qm ?_;refine qe hK ?_;refine qq ?_;refine qj fun K hK => ?_;refine qm ?_;refine qe hK ?_;refine EvC.block ?_;refine qq ?_;refine qj fun K hK => ?_;refine qg ?_;refine qm ?_;refine qe hK ?_;refine EvC.cond (by rfl) (fun q40 => ?_) (fun q40 => ?_) <;> try simp only [beq_iff_eq, beq_eq_false_iff_ne, ne_eq] at q40
 ·refine qq ?_;refine qj fun K hK => ?_;refine qm ?_;obtain ⟨_, st, hev, s4, ⟨p1, p2, p3, p4, l, rfl, p5, p6, p7⟩, hH⟩ := group_ev hA hok he hi hg ho hH;refine qv hev ?_;refine qm ?_;refine qe hK ?_;refine EvC.ret ⟨rx, _, _, _, rfl, leaveD_rw (rfl), ?_⟩;exact ⟨s4, ⟨p1, p2, p3, p4, l, rfl, p5, p6, p7⟩, hH0.leaveRw1 hS2 hH⟩
 refine qq ?_;refine qj fun K hK => ?_;refine qg ?_;refine qm ?_;refine qe hK ?_;refine EvC.cond (by rfl) (fun q91 => ?_) (fun q91 => ?_) <;> try simp only [beq_iff_eq, beq_eq_false_iff_ne, ne_eq] at q91
 ·refine qq ?_;refine qj fun K hK => ?_;refine qm ?_;obtain ⟨_, st, hev, s4, ⟨p1, p2, p3, p4, l, rfl, p5, p6, p7⟩, hH⟩ := class_ev hok he hi hg hH;refine qv hev ?_;refine qm ?_;refine qe hK ?_;refine EvC.ret ⟨rx, _, _, _, rfl, leaveD_rw (rfl), ?_⟩;exact ⟨s4, ⟨p1, p2, p3, p4, l, rfl, p5, p6, p7⟩, hH0.leaveRw1 hS2 hH⟩
 refine qq ?_;refine qj fun K hK => ?_;refine qg ?_;refine qm ?_;refine qe hK ?_;refine EvC.cond (by rfl) (fun q92 => ?_) (fun q92 => ?_) <;> try simp only [beq_iff_eq, beq_eq_false_iff_ne, ne_eq] at q92
 ·refine qq ?_;refine qj fun K hK => ?_;refine qm ?_;obtain ⟨_, st, hev, d1, b, s4, rfl, ⟨p1, p2, p3, p4, p5, p6⟩, hH⟩ := sign_ev (s := s) hok he hi hH;refine qv hev ?_;refine qm ?_;refine qg ?_;refine qg ?_;refine qm ?_;refine qm ?_;refine qe hK ?_
  have hend : ∀ (st : St) (w : D) (a : List Rg) (kk : Nat), (w = rangesV a ∨ w = .nul ∧ a = []) → a.length ≤ 8 → S2.bs.length ≤ kk → Has N S2 st (.lst (.win kk 0 0 1 7) 7 [[.int .i64 2, w, .int .i64 0, .int .i64 0, .bool false, .int .i64 0, .int .i64 0]] :: .box k (.mem 0 false (prsC gs plD s4)) :: .lst plD 1 (pls.map intC) :: H) → ∃ d st', leaveD .rw false s0 st (.win kk 0 0 1 7) = some (d, st') ∧ ∃ (s' : Prs), NodesP gs s s' d 2 ∧ Has N S st' (.box k (.mem 0 false (prsC gs plD s')) :: .lst plD 1 (pls.map intC) :: H) := by
   intro st w a kk hw ha hk hH;have hfz := has_freeze1 hH at0 (L := s0.bs.length) hw (fun k hk => by simp only [D.ref] at hk; rw [← hS2]; omega);refine ⟨_, _, leaveD_rw hfz, s4, ⟨p1, by omega, by omega, p4, _, rfl, mk_v (by omega) (by omega), by simp, ?_⟩, hH0.leaveRw1 hS2 (hH.drop 1)⟩
   rcases p6 with p6 | ⟨p6, p7, _⟩
   ·exact .inl p6
   ·exact .inr ⟨p6, by simp only [List.length_cons, List.length_nil]; omega⟩
  rcases p5 with rfl | ⟨a, rfl, ha⟩
  ·refine qq ?_;refine qj fun K hK => ?_;refine qm ?_;refine EvO.ones (qs := [(0, _), (1, _)]) rfl rfl rfl rfl ⟨rfl, (ev rfl), (by rfl), rfl, (ev rfl), (by rfl), trivial⟩ (by intro q hq; simp only [List.mem_cons, List.not_mem_nil, or_false] at hq; rcases hq with rfl | rfl <;> exact ⟨rfl, by exact Nat.le_of_ble_eq_true rfl⟩) (by show List.foldl _ [_, _, _, _, _, _, _] _ = _; dsimp only [List.foldl_cons, List.foldl_nil, u2, u1] <;> rfl) (put_T rfl _) ?_;refine qh (s := 7) (vs := [_]) hH fun k54 st hk54 hH => ?_;dsimp only [u2, u1, u3, u4, setMany, u5, u6, D.cells, Nat.reduceAdd, prsC, gotC, intC, rangeC, nodC] at hH;refine qm ?_;refine qe hK ?_;obtain ⟨d', st', hld, hrest⟩ := hend _ .nul [] k54 (.inr ⟨rfl, rfl⟩) (by simp) hk54 hH;refine EvC.ret ⟨rx, _, d', st', rfl, hld, hrest⟩
  ·refine qq ?_;refine qj fun K hK => ?_;refine qm ?_;refine EvO.ones (qs := [(0, _), (1, _)]) rfl rfl rfl rfl ⟨rfl, (ev rfl), (by rfl), rfl, (ev rfl), (by rfl), trivial⟩ (by intro q hq; simp only [List.mem_cons, List.not_mem_nil, or_false] at hq; rcases hq with rfl | rfl <;> exact ⟨rfl, by exact Nat.le_of_ble_eq_true rfl⟩) (by show List.foldl _ [_, _, _, _, _, _, _] _ = _; dsimp only [List.foldl_cons, List.foldl_nil, u2, u1] <;> rfl) (put_T rfl _) ?_;refine qh (s := 7) (vs := [_]) hH fun k54 st hk54 hH => ?_;dsimp only [u2, u1, u3, u4, setMany, u5, u6, D.cells, Nat.reduceAdd, prsC, gotC, intC, rangeC, nodC] at hH;refine qm ?_;refine qe hK ?_;obtain ⟨d', st', hld, hrest⟩ := hend _ (rangesV a) a k54 (.inl rfl) ha hk54 hH;refine EvC.ret ⟨rx, _, d', st', rfl, hld, hrest⟩
 refine qq ?_;refine qj fun K hK => ?_;refine qg ?_;refine qm ?_;refine qe hK ?_;refine EvC.cond (by rfl) (fun q46 => ?_) (fun q46 => ?_) <;> try simp only [beq_iff_eq, beq_eq_false_iff_ne, ne_eq] at q46
 ·refine qq ?_;refine qj fun K hK => ?_;refine qm ?_;refine qg ?_;refine qp (o := 2) ?_;refine ql hH at0 ?_;refine qA ?_;refine qg ?_;refine qp (o := 2) ?_;refine qT hH at0 fun st hH => ?_;dsimp only [u2, u1, u3, u4, setMany, u5, u6, D.cells, Nat.reduceAdd, prsC, gotC, intC, rangeC, nodC] at hH;refine qe hK ?_;obtain ⟨_, hdot, a, rfl, hla⟩ := dot_ev (s0 := st);refine qq ?_;refine qj fun K hK => ?_;refine qv (hdot) ?_;refine EvO.ones (qs := [(0, _), (1, _)]) rfl rfl rfl rfl ⟨rfl, (ev rfl), (by rfl), rfl, (ev rfl), (by rfl), trivial⟩ (by intro q hq; simp only [List.mem_cons, List.not_mem_nil, or_false] at hq; rcases hq with rfl | rfl <;> exact ⟨rfl, by exact Nat.le_of_ble_eq_true rfl⟩) (by show List.foldl _ [_, _, _, _, _, _, _] _ = _; dsimp only [List.foldl_cons, List.foldl_nil, u2, u1] <;> rfl) (put_T rfl _) ?_;refine qh (s := 7) (vs := [_]) hH fun k66 st hk66 hH => ?_;refine qm ?_;refine qe hK ?_;obtain ⟨d', st', hld, hrest⟩ := hone _ { s with i := s.i + 1 } 2 (rangesV a) a k66 (.inl rfl) (by omega) rfl hg (by show s.i < s.i + 1; omega) (by show s.i + 1 ≤ _; omega) hk66 hH;refine EvC.ret ⟨rx, _, d', st', rfl, hld, hrest⟩
 refine qq ?_;refine qj fun K hK => ?_;refine qg ?_;refine qm ?_;refine qe hK ?_;refine EvC.cond (by rfl) (fun q94 => ?_) (fun q94 => ?_) <;> try simp only [beq_iff_eq, beq_eq_false_iff_ne, ne_eq] at q94
 ·refine qq ?_;refine qj fun K hK => ?_;refine qm ?_;refine qg ?_;refine qp (o := 2) ?_;refine ql hH at0 ?_;refine qA ?_;refine qg ?_;refine qp (o := 2) ?_;refine qT hH at0 fun st hH => ?_;dsimp only [u2, u1, u3, u4, setMany, u5, u6, D.cells, Nat.reduceAdd, prsC, gotC, intC, rangeC, nodC] at hH;refine qe hK ?_;refine qq ?_;refine qj fun K hK => ?_;refine EvO.go (d := .agg [.int .i64 7, .nul, .int .i64 0, .int .i64 0, .bool false, .int .i64 0, .int .i64 0]) (st1 := _) rfl rfl rfl (put_T rfl _) ?_;refine qh (s := 7) (vs := [_]) hH fun k77 st hk77 hH => ?_;refine qm ?_;refine qe hK ?_;obtain ⟨d', st', hld, hrest⟩ := hone _ { s with i := s.i + 1 } 7 .nul [] k77 (.inr ⟨rfl, rfl⟩) (by simp) rfl hg (by show s.i < s.i + 1; omega) (by show s.i + 1 ≤ _; omega) hk77 hH;refine EvC.ret ⟨rx, _, d', st', rfl, hld, hrest⟩
 refine qq ?_;refine qj fun K hK => ?_;refine qg ?_;refine qm ?_;refine qe hK ?_;refine EvC.cond (by rfl) (fun q36 => ?_) (fun q36 => ?_) <;> try simp only [beq_iff_eq, beq_eq_false_iff_ne, ne_eq] at q36
 ·refine qq ?_;refine qj fun K hK => ?_;refine qm ?_;refine qg ?_;refine qp (o := 2) ?_;refine ql hH at0 ?_;refine qA ?_;refine qg ?_;refine qp (o := 2) ?_;refine qT hH at0 fun st hH => ?_;dsimp only [u2, u1, u3, u4, setMany, u5, u6, D.cells, Nat.reduceAdd, prsC, gotC, intC, rangeC, nodC] at hH;refine qe hK ?_;refine qq ?_;refine qj fun K hK => ?_;refine EvO.go (d := .agg [.int .i64 8, .nul, .int .i64 0, .int .i64 0, .bool false, .int .i64 0, .int .i64 0]) (st1 := _) rfl rfl rfl (put_T rfl _) ?_;refine qh (s := 7) (vs := [_]) hH fun k88 st hk88 hH => ?_;refine qm ?_;refine qe hK ?_;obtain ⟨d', st', hld, hrest⟩ := hone _ { s with i := s.i + 1 } 8 .nul [] k88 (.inr ⟨rfl, rfl⟩) (by simp) rfl hg (by show s.i < s.i + 1; omega) (by show s.i + 1 ≤ _; omega) hk88 hH;refine EvC.ret ⟨rx, _, d', st', rfl, hld, hrest⟩
 refine qq ?_;refine qq ?_;refine qj fun K hK => ?_;refine qg ?_;refine qm ?_;refine qe hK ?_
 by_cases c42 : ((g.1 : Nat) : Int) = 42
 ·refine qD rfl (by simp [c42]) ?_;refine EvC.skip ?_;refine qD rfl (by simp [c42]) ?_;refine qq ?_;refine qj fun K hK => ?_;refine qm ?_;refine qm ?_;obtain ⟨_, st, hev, rfl, s4, hN, hH⟩ := hwr _ hH;refine qv hev ?_;refine qm ?_;refine qe hK ?_;refine EvC.ret ⟨rx, _, _, _, rfl, leaveD_rw (rfl), ?_⟩;exact ⟨s4, hN, hH0.leaveRw1 hS2 hH⟩
 refine qE rfl (by simp [c42]) ?_;refine qq ?_;refine qj fun K hK => ?_;refine qg ?_;refine qm ?_;refine qe hK ?_
 by_cases c43 : ((g.1 : Nat) : Int) = 43
 ·refine qD rfl (by simp [c43]) ?_;refine EvC.skip ?_;refine qD rfl (by simp [c43]) ?_;refine qq ?_;refine qj fun K hK => ?_;refine qm ?_;refine qm ?_;obtain ⟨_, st, hev, rfl, s4, hN, hH⟩ := hwr _ hH;refine qv hev ?_;refine qm ?_;refine qe hK ?_;refine EvC.ret ⟨rx, _, _, _, rfl, leaveD_rw (rfl), ?_⟩;exact ⟨s4, hN, hH0.leaveRw1 hS2 hH⟩
 refine qE rfl (by simp [c43]) ?_;refine qq ?_;refine qj fun K hK => ?_;refine qg ?_;refine qm ?_;refine qe hK ?_
 by_cases c63 : ((g.1 : Nat) : Int) = 63
 ·refine qD rfl (by simp [c63]) ?_;refine EvC.skip ?_;refine qD rfl (by simp [c63]) ?_;refine qq ?_;refine qj fun K hK => ?_;refine qm ?_;refine qm ?_;obtain ⟨_, st, hev, rfl, s4, hN, hH⟩ := hwr _ hH;refine qv hev ?_;refine qm ?_;refine qe hK ?_;refine EvC.ret ⟨rx, _, _, _, rfl, leaveD_rw (rfl), ?_⟩;exact ⟨s4, hN, hH0.leaveRw1 hS2 hH⟩
 refine qE rfl (by simp [c63]) ?_;refine qq ?_;refine qj fun K hK => ?_;refine qg ?_;refine qm ?_;refine qe hK ?_
 by_cases c41 : ((g.1 : Nat) : Int) = 41
 ·refine qD rfl (by simp [c41]) ?_;refine EvC.skip ?_;refine qD rfl (by simp [c41]) ?_;refine qq ?_;refine qj fun K hK => ?_;refine qm ?_;refine qm ?_;obtain ⟨_, st, hev, rfl, s4, hN, hH⟩ := hwr _ hH;refine qv hev ?_;refine qm ?_;refine qe hK ?_;refine EvC.ret ⟨rx, _, _, _, rfl, leaveD_rw (rfl), ?_⟩;exact ⟨s4, hN, hH0.leaveRw1 hS2 hH⟩
 refine qE rfl (by simp [c41]) ?_;refine qq ?_;refine qj fun K hK => ?_;refine qg ?_;refine qm ?_;refine qe hK ?_
 by_cases c93 : ((g.1 : Nat) : Int) = 93
 ·refine qD rfl (by simp [c93]) ?_;refine EvC.skip ?_;refine qD rfl (by simp [c93]) ?_;refine qq ?_;refine qj fun K hK => ?_;refine qm ?_;refine qm ?_;obtain ⟨_, st, hev, rfl, s4, hN, hH⟩ := hwr _ hH;refine qv hev ?_;refine qm ?_;refine qe hK ?_;refine EvC.ret ⟨rx, _, _, _, rfl, leaveD_rw (rfl), ?_⟩;exact ⟨s4, hN, hH0.leaveRw1 hS2 hH⟩
 refine qE rfl (by simp [c93]) ?_;refine qq ?_;refine qj fun K hK => ?_;refine qg ?_;refine qm ?_;refine qe hK ?_
 by_cases c123 : ((g.1 : Nat) : Int) = 123
 ·refine qD rfl (by simp [c123]) ?_;refine EvC.skip ?_;refine qD rfl (by simp [c123]) ?_;refine qq ?_;refine qj fun K hK => ?_;refine qm ?_;refine qm ?_;obtain ⟨_, st, hev, rfl, s4, hN, hH⟩ := hwr _ hH;refine qv hev ?_;refine qm ?_;refine qe hK ?_;refine EvC.ret ⟨rx, _, _, _, rfl, leaveD_rw (rfl), ?_⟩;exact ⟨s4, hN, hH0.leaveRw1 hS2 hH⟩
 refine qE rfl (by simp [c123]) ?_;refine qq ?_;refine qj fun K hK => ?_;refine qg ?_;refine qm ?_;refine qe hK ?_
 by_cases c125 : ((g.1 : Nat) : Int) = 125
 ·refine qD rfl (by simp [c125]) ?_;refine EvC.skip ?_;refine qD rfl (by simp [c125]) ?_;refine qq ?_;refine qj fun K hK => ?_;refine qm ?_;refine qm ?_;obtain ⟨_, st, hev, rfl, s4, hN, hH⟩ := hwr _ hH;refine qv hev ?_;refine qm ?_;refine qe hK ?_;refine EvC.ret ⟨rx, _, _, _, rfl, leaveD_rw (rfl), ?_⟩;exact ⟨s4, hN, hH0.leaveRw1 hS2 hH⟩
 refine qE rfl (by simp [c125]) ?_;refine qj fun K hK => ?_;refine qg ?_;refine qm ?_;refine qe hK ?_
 by_cases c124 : ((g.1 : Nat) : Int) = 124
 ·refine qD rfl (by simp [c124]) ?_;refine qq ?_;refine qj fun K hK => ?_;refine qm ?_;refine qm ?_;obtain ⟨_, st, hev, rfl, s4, hN, hH⟩ := hwr _ hH;refine qv hev ?_;refine qm ?_;refine qe hK ?_;refine EvC.ret ⟨rx, _, _, _, rfl, leaveD_rw (rfl), ?_⟩;exact ⟨s4, hN, hH0.leaveRw1 hS2 hH⟩
 refine qE rfl (by simp [c124]) ?_;refine qq ?_;refine qj fun K hK => ?_;refine qm ?_;refine qg ?_;refine qp (o := 2) ?_;refine ql hH at0 ?_;refine qA ?_;refine qg ?_;refine qp (o := 2) ?_;refine qT hH at0 fun st hH => ?_;dsimp only [u2, u1, u3, u4, setMany, u5, u6, D.cells, Nat.reduceAdd, prsC, gotC, intC, rangeC, nodC] at hH;refine qe hK ?_;obtain ⟨_, hml, _⟩ := mk_ev (s0 := s0) (x := rangesV [(((g.1 : Nat) : Int), ((g.1 : Nat) : Int))]) (l := [(((g.1 : Nat) : Int), ((g.1 : Nat) : Int))]) (rangesV_rows _ _) (by simp);simp only [List.length_cons, List.length_nil] at hml;refine qq ?_;refine qj fun K hK => ?_;refine qm ?_;refine qv (single_ev _) ?_;refine EvO.ones (qs := [(0, _), (1, _)]) rfl rfl rfl rfl ⟨rfl, (ev rfl), (by rfl), rfl, (ev rfl), (by rfl), trivial⟩ (by intro q hq; simp only [List.mem_cons, List.not_mem_nil, or_false] at hq; rcases hq with rfl | rfl <;> exact ⟨rfl, by exact Nat.le_of_ble_eq_true rfl⟩) (by show List.foldl _ [_, _, _, _, _, _, _] _ = _; dsimp only [List.foldl_cons, List.foldl_nil, u2, u1] <;> rfl) (put_T rfl _) ?_;refine qh (s := 7) (vs := [_]) hH fun k36 st hk36 hH => ?_;refine qm ?_;refine qe hK ?_;obtain ⟨d', st', hld, hrest⟩ := hone _ { s with i := s.i + 1 } 2 _ _ k36 (.inl rfl) (by omega) rfl hg (by show s.i < s.i + 1; omega) (by show s.i + 1 ≤ _; omega) hk36 hH;refine EvC.ret ⟨rx, _, d', st', rfl, hld, hrest⟩
theorem rep_ev {m : Nat} (hA : ∀ m', m' + 1 = m → AltSpec m') {N k : Nat} {S s0 : St} {H : List Ent} {gs : List (Nat × Nat)} {plD : D} {pls : List Int} {s : Prs} (hok : PrsOk gs pls) (he : s.e = 0) (hi : s.i < gs.length) (hg : s.g ≤ 4) (ho : s.o + m = 20) (hH : Has N S s0 (.box k (.mem 0 false (prsC gs plD s)) :: .lst plD 1 (pls.map intC) :: H)) :
  ∃ d st', Ev pv 86 [.ptr k 0 0] s0 d st' ∧ ∃ (s' : Prs), NodesP gs s s' d 1 ∧ Has N S st' (.box k (.mem 0 false (prsC gs plD s')) :: .lst plD 1 (pls.map intC) :: H) := by
 have hgl := hok.gl;have hpl := hok.pl;refine Ev.mkE rfl fi86 rfl rfl rfl ?_;dsimp only [u3, u4, List.length, Nat.reduceSub, Nat.reduceAdd, w1, w2];have hH0 := hH;have hH := hH.enterRw;have hS2 : (enterSt .rw s0).bs = s0.bs := rfl;generalize enterSt .rw s0 = S2 at *;refine qq ?_;refine qj fun K hK => ?_;refine qm ?_;refine qe hK ?_;refine qq ?_;refine qj fun K hK => ?_;refine qm ?_;obtain ⟨_, st, hev, s1, ⟨p1, p2, p3, p4, l, rfl, p5, p6, p7⟩, hH⟩ := atom_ev hA hok he hi hg ho hH;refine qv hev ?_;refine qm ?_;refine qe hK ?_;refine qq ?_;refine qq ?_;refine qj fun K hK => ?_;refine qm ?_;refine qg ?_;refine qp (o := 5) ?_;refine ql hH at0 ?_;refine qg ?_;refine qe hK ?_
 rcases p7 with p7 | ⟨p7, p8⟩
 ·refine qD rfl (by simp [p7]) ?_;refine qq ?_;refine qj fun K hK => ?_;refine qm ?_;refine qe hK ?_;refine EvC.ret ⟨rx, _, _, _, rfl, leaveD_rw (rfl), ?_⟩;exact ⟨s1, nodes_nil p1 p2 p3 p4 p7, hH0.leaveRw1 hS2 hH⟩
 refine qE rfl (by simp [p7]) ?_;refine EvC.skip ?_;refine qq ?_;refine qj fun K hK => ?_;refine EvO.go (d := .agg [.int .i64 5, .nul, .int .i64 0, .int .i64 0, .bool false, .int .i64 0, .int .i64 1]) (st1 := _) rfl rfl rfl (put_T rfl _) ?_;refine qa hH fun k4 st hk4 hH => ?_;dsimp only [u2, u1, u3, u4, setMany, u5, u6, D.cells, Nat.reduceAdd, prsC, gotC, intC, rangeC, nodC] at hH;refine qS hH at0 fun st hH => ?_;dsimp only [u2, u1, u3, u4, setMany, u5, u6, D.cells, Nat.reduceAdd, prsC, gotC, intC, rangeC, nodC] at hH;refine qe hK ?_;have hH : Has N S2 st (.box k (.mem 0 false (prsC gs plD s1)) :: .lst plD 1 (pls.map intC) :: .box k4 (.mem 0 false [.int .i64 5, .nul, .int .i64 0, .int .i64 0, .bool false, .int .i64 0, .int .i64 1]) :: H) := Has_rot3 hH;refine qq ?_;refine EvC.merge (fun fr st => ∃ (mn mx : Int) (s2 : Prs) (tmp : List (Nat × D)), fr = ⟨5, [.ptr k 0 0, ixF_Pi fr 1, ixF_Pi fr 2, nlD l, .ptr k4 0 0], tmp⟩ ∧ Has N S2 st (.box k (.mem 0 false (prsC gs plD s2)) :: .lst plD 1 (pls.map intC) :: .box k4 (.mem 0 false [.int .i64 5, .nul, .int .i64 mn, .int .i64 mx, .bool false, .int .i64 0, .int .i64 1]) :: H) ∧ (s2.o = s.o) ∧ (s2.g ≤ 4) ∧ (s1.i < s2.i) ∧ (s2.i ≤ gs.length)) ?_ ?_
 ·refine EvC.block ?_;refine qq ?_;refine qj fun K hK => ?_;refine qm ?_;obtain ⟨_, st, hev, rfl, hH⟩ := skip_ev (s := s1) (by omega) 42 hH;refine qv hev ?_;refine qm ?_;refine qe hK ?_
  cases hb1 : isS gs s1.i 42 with
  | true =>
   obtain ⟨k1, k2, k3, k4', k5⟩ := skip_i (gs := gs) (s := s1) (r := 42);have k6 := skip_yes hb1;have k7 := k5 p4;generalize skipS gs s1 42 = s2 at *;refine qB ?_;refine qj fun K hK => ?_;refine qp (o := 3) ?_;refine qT hH at2 fun st hH => ?_;dsimp only [u2, u1, u3, u4, setMany, u5, u6, D.cells, Nat.reduceAdd, prsC, gotC, intC, rangeC, nodC] at hH;refine qe hK ?_;exact ⟨0, -1, s2, _, rfl, hH, by omega, by omega, by omega, k7⟩
  | false =>
   rw [skip_no hb1] at hH;refine qC ?_;refine qq ?_;refine qj fun K hK => ?_;refine qm ?_;obtain ⟨_, st, hev, rfl, hH⟩ := skip_ev (s := s1) (by omega) 43 hH;refine qv hev ?_;refine qm ?_;refine qe hK ?_
   cases hb2 : isS gs s1.i 43 with
   | true =>
    obtain ⟨k1, k2, k3, k4', k5⟩ := skip_i (gs := gs) (s := s1) (r := 43);have k6 := skip_yes hb2;have k7 := k5 p4;generalize skipS gs s1 43 = s2 at *;refine qB ?_;refine qj fun K hK => ?_;refine qp (o := 2) ?_;refine qT hH at2 fun st hH => ?_;dsimp only [u2, u1, u3, u4, setMany, u5, u6, D.cells, Nat.reduceAdd, prsC, gotC, intC, rangeC, nodC] at hH;refine qp (o := 3) ?_;refine qT hH at2 fun st hH => ?_;dsimp only [u2, u1, u3, u4, setMany, u5, u6, D.cells, Nat.reduceAdd, prsC, gotC, intC, rangeC, nodC] at hH;refine qe hK ?_;exact ⟨1, -1, s2, _, rfl, hH, by omega, by omega, by omega, k7⟩
   | false =>
    rw [skip_no hb2] at hH;refine qC ?_;refine qq ?_;refine qj fun K hK => ?_;refine qm ?_;obtain ⟨_, st, hev, rfl, hH⟩ := skip_ev (s := s1) (by omega) 63 hH;refine qv hev ?_;refine qm ?_;refine qe hK ?_
    cases hb3 : isS gs s1.i 63 with
    | true =>
     obtain ⟨k1, k2, k3, k4', k5⟩ := skip_i (gs := gs) (s := s1) (r := 63);have k6 := skip_yes hb3;have k7 := k5 p4;generalize skipS gs s1 63 = s2 at *;refine qB ?_;refine qj fun K hK => ?_;refine qp (o := 3) ?_;refine qT hH at2 fun st hH => ?_;dsimp only [u2, u1, u3, u4, setMany, u5, u6, D.cells, Nat.reduceAdd, prsC, gotC, intC, rangeC, nodC] at hH;refine qe hK ?_;exact ⟨0, 1, s2, _, rfl, hH, by omega, by omega, by omega, k7⟩
    | false =>
     rw [skip_no hb3] at hH;refine qC ?_;refine qq ?_;refine qj fun K hK => ?_;refine qm ?_;obtain ⟨_, st, hev, rfl, hH⟩ := is_ev (s := s1) (by omega) 123 hH;refine qv hev ?_;refine qm ?_;refine qe hK ?_
     cases hb4 : isS gs s1.i 123 with
     | true =>
      have hlt := isS_lt hb4;refine qB ?_;refine qj fun K hK => ?_;refine qm ?_;obtain ⟨_, st, hev, n1, n2, s2, rfl, ⟨m1, m2, m3, m4⟩, hH⟩ := often_ev hok p7 hlt hH;refine qv hev ?_;refine qm ?_;refine qg ?_;refine qg ?_;refine qp (o := 2) ?_;refine qT hH at2 fun st hH => ?_;dsimp only [u2, u1, u3, u4, setMany, u5, u6, D.cells, Nat.reduceAdd, prsC, gotC, intC, rangeC, nodC] at hH;refine qp (o := 3) ?_;refine qT hH at2 fun st hH => ?_;dsimp only [u2, u1, u3, u4, setMany, u5, u6, D.cells, Nat.reduceAdd, prsC, gotC, intC, rangeC, nodC] at hH;refine qe hK ?_;exact ⟨n1, n2, s2, _, rfl, hH, by omega, by omega, m3, m4⟩
     | false =>
      refine qC ?_;refine qq ?_;refine qj fun K hK => ?_;refine qm ?_;refine qm ?_;refine qe hK ?_;refine EvC.ret ⟨rx, _, _, _, rfl, leaveD_rw (rfl), ?_⟩;exact ⟨s1, ⟨p1, p2, p3, p4, l, rfl, p5, p6, .inr ⟨p7, by omega⟩⟩, hH0.leaveRw1 hS2 (hH.erase 2)⟩
 ·rintro fr st ⟨mn, mx, s2, tmp, hfr, hH, h1, h2, h3, h4⟩;rw [hfr];clear hfr;generalize ixF_Pi fr = ee;clear fr;refine qq ?_;refine qq ?_;refine qj fun K hK => ?_;refine qm ?_;refine qg ?_;refine qp (o := 5) ?_;refine ql hH at0 ?_;refine qg ?_;refine qe hK ?_
  by_cases he2 : s2.e = 0
  ·refine qE rfl (by simp [he2]) ?_;refine EvC.skip ?_;obtain ⟨k1, k2, k3, k4', k5⟩ := skip_i (gs := gs) (s := s2) (r := 63);have k7 := k5 h4;refine qq ?_;refine qj fun K hK => ?_;refine qm ?_;obtain ⟨_, st, hev, rfl, hH⟩ := skip_ev (s := s2) (by omega) 63 hH;refine qv hev ?_;refine qp (o := 4) ?_;refine qT hH at2 fun st hH => ?_;dsimp only [u2, u1, u3, u4, setMany, u5, u6, D.cells, Nat.reduceAdd, prsC, gotC, intC, rangeC, nodC] at hH;refine qe hK ?_;generalize skipS gs s2 63 = s3 at *;generalize isS gs s2.i 63 = lz at *;have hla := (nl_sl p5).arg N S2;refine qq ?_;refine qj fun K hK => ?_;refine EvO.hloadS (m := 7) hH rfl (ev rfl) (by exact at2) (by dsimp only [List.drop_succ_cons, List.drop_zero, List.take_succ_cons, List.take_zero, prsC, gotC, intC, rangeC, nodC] <;> rfl) rfl rfl (put_T rfl _) ?_;refine qh (s := 7) (vs := [_]) hH fun k46 st hk46 hH => ?_;refine qm ?_;refine EvO.happend5 (s := 7) hH rfl (ev rfl) (ev rfl) at0 ((nl_sl p5).rows st) rfl rfl rfl rfl rfl rfl rfl ⟨(Nat.le_of_ble_eq_true rfl), (Nat.le_of_ble_eq_true rfl)⟩ (fun _ => (put_T rfl _)) (by simp only [List.length_map, List.length_cons, List.length_nil]; omega) (.inr (nod_refs0 p5)) (fun k hk => by have hk' : k46 + 1 = k + 1 := hk; omega) (fun x48 st hod hH => ?_);dsimp only [u2] at hH;refine qm ?_;refine qe hK ?_;have hH : Has N S2 st (.lst x48 7 ([.int .i64 5, .nul, .int .i64 mn, .int .i64 mx, .bool lz, .int .i64 0, .int .i64 1] :: l.map nodC) :: .box k (.mem 0 false (prsC gs plD s3)) :: .lst plD 1 (pls.map intC) :: .box k4 (.mem 0 false [.int .i64 5, .nul, .int .i64 mn, .int .i64 mx, .bool lz, .int .i64 0, .int .i64 1]) :: H) := hH
   have hfz := has_freezeN (L := s0.bs.length) (l := mkNd 5 mn mx lz 0 1 [] :: l) hH at0 (by rw [List.map_cons, nod_frz p5]; rfl) (fun e he d hd => by
    rcases List.mem_cons.1 he with rfl | he
    ·simp only [List.mem_cons, List.not_mem_nil, or_false] at hd
     rcases hd with rfl | rfl | rfl | rfl | rfl | rfl | rfl <;> rfl
    ·exact nod_tell p5 e he d hd) (fun k hk => by rw [← hS2]; exact hod k hk) (n := 16) (by decide)
   refine EvC.ret ⟨rx, _, _, _, rfl, leaveD_rw hfz, ⟨s3, ⟨by omega, by omega, by omega, k7, _, rfl, ?_, by simp only [List.length_cons]; omega, .inr ⟨by omega, by simp only [List.length_cons]; omega⟩⟩, hH0.leaveRw1 hS2 ((hH.drop 1).erase 2)⟩⟩;intro n hn
   rcases List.mem_cons.1 hn with rfl | hn
   ·exact ⟨rfl, by simp [mkNd], by simp [mkNd]⟩
   ·exact p5 n hn
  ·refine qD rfl (by simp [he2]) ?_;refine qq ?_;refine qj fun K hK => ?_;refine qm ?_;refine qe hK ?_;refine EvC.ret ⟨rx, _, _, _, rfl, leaveD_rw (rfl), ?_⟩;exact ⟨s2, nodes_nil h1 h2 (by omega) h4 he2, hH0.leaveRw1 hS2 (hH.erase 2)⟩
def ixF_Pj (fr : Go.V.Fr) (k : Nat) : Go.V.D := Go.V.nth .junk fr.loc k
theorem cat_ev {m : Nat} (hA : ∀ m', m' + 1 = m → AltSpec m') {N k : Nat} {S s0 : St} {H : List Ent} {gs : List (Nat × Nat)} {plD : D} {pls : List Int} {s : Prs} (hok : PrsOk gs pls) (he : s.e = 0) (hi : s.i ≤ gs.length) (hg : s.g ≤ 4) (ho : s.o + m = 20) (hH : Has N S s0 (.box k (.mem 0 false (prsC gs plD s)) :: .lst plD 1 (pls.map intC) :: H)) :
  ∃ d st', Ev pv 70 [.ptr k 0 0] s0 d st' ∧ ∃ (s' : Prs), NodesQ gs s s' d ∧ Has N S st' (.box k (.mem 0 false (prsC gs plD s')) :: .lst plD 1 (pls.map intC) :: H) := by
 have hgl := hok.gl;have hpl := hok.pl;refine Ev.mkE rfl fi70 rfl rfl rfl ?_;dsimp only [u3, u4, List.length, Nat.reduceSub, Nat.reduceAdd, w1, w2];have hH0 := hH;have hH := hH.enterRw;have hS2 : (enterSt .rw s0).bs = s0.bs := rfl;generalize enterSt .rw s0 = S2 at *;have hgr : Arg N S2 2 (gotsD gs) (gs.map gotC) := Arg.pure (fun st => gots_rows st gs);refine qq ?_;refine qj fun K hK => ?_;refine qm ?_;refine qe hK ?_;refine qq ?_;refine qj fun K hK => ?_;refine qm ?_;refine qe hK ?_;have hH : Has N S2 S2 (.box k (.mem 0 false (prsC gs plD s)) :: .lst plD 1 (pls.map intC) :: .lst .nul 1 (([] : List (List Nod)).map partC) :: H) := Has_rot3 (hH.nulE 1);refine qq ?_;refine EvC.block ?_;refine EvC.loop (fun mm fr st => ∃ (s1 : Prs) (pd : D) (parts : List (List Nod)), fr.clean = ⟨4, [.ptr k 0 0, ixF_Pj fr 1, ixF_Pj fr 2, pd], []⟩ ∧ Has N S2 st (.box k (.mem 0 false (prsC gs plD s1)) :: .lst plD 1 (pls.map intC) :: .lst pd 1 (parts.map partC) :: H) ∧ (s1.o = s.o) ∧ (s1.g ≤ 4) ∧ (s.i ≤ s1.i) ∧ (s1.i ≤ gs.length) ∧ (∀ l ∈ parts, ∀ n ∈ l, NdV n) ∧ (sumL parts + parts.length ≤ 4 * (s1.i - s.i) + 2) ∧ (s1.e = 0 → sumL parts + parts.length ≤ 4 * (s1.i - s.i)) ∧ (gs.length - s1.i + (if s1.e = 0 then 1 else 0) ≤ mm)) (gs.length + 1) ?_ ?_
 ·exact ⟨s, .nul, [], rfl, hH, rfl, hg, Nat.le_refl _, hi, fun l hl => (by cases hl), by simp [sumL], fun _ => by simp [sumL], by split <;> omega⟩
 rintro mm fr st ⟨s1, pd, parts, hfr, hH, h1, h2, h3, h4, h5, h6, h7, hmm⟩;rw [hfr];clear hfr;generalize ixF_Pj fr = ee;clear fr
 have hexit : ∀ st : St, Has N S2 st (.box k (.mem 0 false (prsC gs plD s1)) :: .lst plD 1 (pls.map intC) :: .lst pd 1 (parts.map partC) :: H) → ∃ d, Ev pv 72 [.int .i64 3, pd] st d st ∧ NodesQ gs s s1 d ∧ ∃ l, d = nlD l := by
  intro st hH;obtain ⟨_, hev, l, rfl, j1, j2, j3⟩ := joined_ev 3 (hH.rows at2) h5 (by omega) (by omega);refine ⟨_, hev, ⟨h1, h2, h3, h4, l, rfl, j1, ?_⟩, l, rfl⟩
  by_cases q1 : parts.length = 1
  ·have := j2 q1; omega
  ·by_cases q0 : parts.length = 0
   ·have : parts = [] := List.length_eq_zero_iff.1 q0;rw [this] at j3 h6;simp [sumL] at j3 h6;omega
   ·omega
 by_cases he1 : s1.e = 0
 ·rw [if_pos he1] at hmm;have h7 := h7 he1;have hg5 : (s1.e == 0) = true := by simpa using he1
  by_cases hlt : s1.i < gs.length
  ·have hg17 : decide (((s1.i : Nat) : Int) < ((gs.length : Nat) : Int)) = true := by rw [decide_eq_true_eq]; omega
   cases hg22 : (!isS gs s1.i 124) with
   | false =>
    refine qq ?_;refine qq ?_;refine qj fun K hK => ?_;refine qm ?_;refine qg ?_;refine qp (o := 5) ?_;refine ql hH at0 ?_;refine qg ?_;refine qm ?_;refine qm ?_ (hg := wi hg5);refine qg ?_ (hg := wi hg5);refine qp (o := 2) ?_ (hg := wi hg5);refine ql hH at0 ?_ (hg := wi hg5);refine qm ?_ (hg := wi hg5);refine qg ?_ (hg := wi hg5);refine qp (o := 0) ?_ (hg := wi hg5);refine ql hH at0 ?_ (hg := wi hg5);refine qn ?_ (hg := wi hg5);simp only [List.length_map];refine qg ?_ (hg := wi hg5);refine qt hg5 ?_;refine qm ?_;refine qm ?_ (hg := wi hg17);obtain ⟨_, st, hev, rfl, hH⟩ := is_ev (s := s1) (by omega) 124 hH;refine qv hev ?_ (hg := wi hg17);refine qg ?_ (hg := wi hg17);refine qt hg17 ?_;refine qm ?_;refine qs ?_ (hg := wn hg22);refine qs ?_ (hg := wn hg22);refine qs ?_ (hg := wn hg22);refine qs ?_;refine qs ?_;refine qs ?_;refine qs ?_;refine qs ?_;refine qs ?_ (hg := wn hg22);refine qs ?_ (hg := wn hg22);refine qu hg22 ?_;refine qe hK ?_;refine qC ?_;refine EvC.exit ?_;obtain ⟨_, hjo, hQ, l, rfl⟩ := hexit _ hH;refine qq ?_;refine qj fun K hK => ?_;refine qm ?_;refine qv (hjo) ?_;refine qm ?_;refine qe hK ?_;refine EvC.ret ⟨rx, _, _, _, rfl, leaveD_rw (rfl), ?_⟩;exact ⟨s1, hQ, hH0.leaveRw1 hS2 (hH.erase 2)⟩
   | true =>
    cases hg25 : isS gs s1.i 41 with
    | false =>
     refine qq ?_;refine qq ?_;refine qj fun K hK => ?_;refine qm ?_;refine qg ?_;refine qp (o := 5) ?_;refine ql hH at0 ?_;refine qg ?_;refine qm ?_;refine qm ?_ (hg := wi hg5);refine qg ?_ (hg := wi hg5);refine qp (o := 2) ?_ (hg := wi hg5);refine ql hH at0 ?_ (hg := wi hg5);refine qm ?_ (hg := wi hg5);refine qg ?_ (hg := wi hg5);refine qp (o := 0) ?_ (hg := wi hg5);refine ql hH at0 ?_ (hg := wi hg5);refine qn ?_ (hg := wi hg5);simp only [List.length_map];refine qg ?_ (hg := wi hg5);refine qt hg5 ?_;refine qm ?_;refine qm ?_ (hg := wi hg17);obtain ⟨_, st, hev, rfl, hH⟩ := is_ev (s := s1) (by omega) 124 hH;refine qv hev ?_ (hg := wi hg17);refine qg ?_ (hg := wi hg17);refine qt hg17 ?_;refine qm ?_;refine qm ?_ (hg := wi hg22);obtain ⟨_, st, hev, rfl, hH⟩ := is_ev (s := s1) (by omega) 41 hH;refine qv hev ?_ (hg := wi hg22);refine qm ?_ (hg := wi hg22);refine qs ?_ (hg := wn hg25);refine qs ?_ (hg := wn hg25);refine qs ?_ (hg := wn hg25);refine qs ?_ (hg := wn hg25);refine qs ?_ (hg := wn hg25);refine EvO.pickF (wantD_is rfl rfl rfl hg22) rfl hg25 (put_T rfl _) ?_;refine qg ?_ (hg := wi hg22);refine qt hg22 ?_;refine qe hK ?_;refine qB ?_;refine EvC.skip ?_;refine EvC.block ?_;refine qj fun K hK => ?_;refine qm ?_;refine qm ?_;obtain ⟨_, st, hev, s2, ⟨r1, r2, r3, r4, l, rfl, r5, r6, r7⟩, hH⟩ := rep_ev hA hok (s := s1) he1 hlt h2 (by omega) hH;refine qv hev ?_;refine qh (s := 1) (vs := [_]) hH fun k41 st hk41 hH => ?_;dsimp only [u2, u1, u3, u4, setMany, u5, u6, D.cells, Nat.reduceAdd, prsC, gotC, intC, rangeC, partC] at hH;refine EvO.happend (s := 1) hH rfl (ev rfl) (ev rfl) (by exact at3) (by exact hH.rows (by exact at0)) rfl rfl rfl rfl rfl rfl rfl ⟨(Nat.le_of_ble_eq_true rfl), (Nat.le_of_ble_eq_true rfl)⟩ (fun _ => (put_T rfl _)) (by simp only [List.length_cons, List.length_nil, List.length_map] <;> omega) (by exact .inr rfl) (fun x42 st hH => ?_);dsimp only [u2, u1, u3, u4, setMany, u5, u6, D.cells, Nat.reduceAdd, prsC, gotC, intC, rangeC, partC] at hH;refine qm ?_;refine qe hK ?_;have hH := hH.drop 1;refine ⟨mm - 1, by omega, ⟨s2, x42, parts ++ [l], rfl, (by rw [List.map_append]; exact hH), by omega, r2, by omega, r4, ?_, by rw [sumL_append, List.length_append]; simp only [sumL, List.length_cons, List.length_nil]; omega, (fun e => by rw [sumL_append, List.length_append]; simp only [sumL, List.length_cons, List.length_nil]; omega), by split <;> omega⟩⟩;intro l' hl'
     rcases List.mem_append.1 hl' with hl' | hl'
     ·exact h5 l' hl'
     ·simp only [List.mem_cons, List.not_mem_nil, or_false] at hl'; subst hl'; exact r5
    | true =>
     refine qq ?_;refine qq ?_;refine qj fun K hK => ?_;refine qm ?_;refine qg ?_;refine qp (o := 5) ?_;refine ql hH at0 ?_;refine qg ?_;refine qm ?_;refine qm ?_ (hg := wi hg5);refine qg ?_ (hg := wi hg5);refine qp (o := 2) ?_ (hg := wi hg5);refine ql hH at0 ?_ (hg := wi hg5);refine qm ?_ (hg := wi hg5);refine qg ?_ (hg := wi hg5);refine qp (o := 0) ?_ (hg := wi hg5);refine ql hH at0 ?_ (hg := wi hg5);refine qn ?_ (hg := wi hg5);simp only [List.length_map];refine qg ?_ (hg := wi hg5);refine qt hg5 ?_;refine qm ?_;refine qm ?_ (hg := wi hg17);obtain ⟨_, st, hev, rfl, hH⟩ := is_ev (s := s1) (by omega) 124 hH;refine qv hev ?_ (hg := wi hg17);refine qg ?_ (hg := wi hg17);refine qt hg17 ?_;refine qm ?_;refine qm ?_ (hg := wi hg22);obtain ⟨_, st, hev, rfl, hH⟩ := is_ev (s := s1) (by omega) 41 hH;refine qv hev ?_ (hg := wi hg22);refine qm ?_ (hg := wi hg22);refine qm ?_ (hg := wi hg25);refine qg ?_ (hg := wi hg25);refine qp (o := 3) ?_ (hg := wi hg25);refine ql hH at0 ?_ (hg := wi hg25);refine qg ?_ (hg := wi hg25);refine EvO.pickT (wantD_is rfl rfl rfl hg22) rfl hg25 (put_T rfl _) ?_;refine qg ?_ (hg := wi hg22);refine qt hg22 ?_;refine qe hK ?_
     by_cases hop : 0 < s1.o
     ·have hcc : (!decide (((s1.o : Nat) : Int) > 0)) = false := by rw [decide_eq_true (by omega)]; rfl
      refine qE rfl (by rw [hcc]) ?_;refine EvC.exit ?_;obtain ⟨_, hjo, hQ, l, rfl⟩ := hexit _ hH;refine qq ?_;refine qj fun K hK => ?_;refine qm ?_;refine qv (hjo) ?_;refine qm ?_;refine qe hK ?_;refine EvC.ret ⟨rx, _, _, _, rfl, leaveD_rw (rfl), ?_⟩;exact ⟨s1, hQ, hH0.leaveRw1 hS2 (hH.erase 2)⟩
     ·have hcc : (!decide (((s1.o : Nat) : Int) > 0)) = true := by rw [decide_eq_false (by omega)]; rfl
      refine qD rfl (by rw [hcc]) ?_;refine EvC.skip ?_;refine EvC.block ?_;refine qj fun K hK => ?_;refine qm ?_;refine qm ?_;obtain ⟨_, st, hev, s2, ⟨r1, r2, r3, r4, l, rfl, r5, r6, r7⟩, hH⟩ := rep_ev hA hok (s := s1) he1 hlt h2 (by omega) hH;refine qv hev ?_;refine qh (s := 1) (vs := [_]) hH fun k41 st hk41 hH => ?_;dsimp only [u2, u1, u3, u4, setMany, u5, u6, D.cells, Nat.reduceAdd, prsC, gotC, intC, rangeC, partC] at hH;refine EvO.happend (s := 1) hH rfl (ev rfl) (ev rfl) (by exact at3) (by exact hH.rows (by exact at0)) rfl rfl rfl rfl rfl rfl rfl ⟨(Nat.le_of_ble_eq_true rfl), (Nat.le_of_ble_eq_true rfl)⟩ (fun _ => (put_T rfl _)) (by simp only [List.length_cons, List.length_nil, List.length_map] <;> omega) (by exact .inr rfl) (fun x42 st hH => ?_);dsimp only [u2, u1, u3, u4, setMany, u5, u6, D.cells, Nat.reduceAdd, prsC, gotC, intC, rangeC, partC] at hH;refine qm ?_;refine qe hK ?_;have hH := hH.drop 1;refine ⟨mm - 1, by omega, ⟨s2, x42, parts ++ [l], rfl, (by rw [List.map_append]; exact hH), by omega, r2, by omega, r4, ?_, by rw [sumL_append, List.length_append]; simp only [sumL, List.length_cons, List.length_nil]; omega, (fun e => by rw [sumL_append, List.length_append]; simp only [sumL, List.length_cons, List.length_nil]; omega), by split <;> omega⟩⟩;intro l' hl'
      rcases List.mem_append.1 hl' with hl' | hl'
      ·exact h5 l' hl'
      ·simp only [List.mem_cons, List.not_mem_nil, or_false] at hl'; subst hl'; exact r5
  ·have hg17 : decide (((s1.i : Nat) : Int) < ((gs.length : Nat) : Int)) = false := by rw [decide_eq_false_iff_not]; omega
   refine qq ?_;refine qq ?_;refine qj fun K hK => ?_;refine qm ?_;refine qg ?_;refine qp (o := 5) ?_;refine ql hH at0 ?_;refine qg ?_;refine qm ?_;refine qm ?_ (hg := wi hg5);refine qg ?_ (hg := wi hg5);refine qp (o := 2) ?_ (hg := wi hg5);refine ql hH at0 ?_ (hg := wi hg5);refine qm ?_ (hg := wi hg5);refine qg ?_ (hg := wi hg5);refine qp (o := 0) ?_ (hg := wi hg5);refine ql hH at0 ?_ (hg := wi hg5);refine qn ?_ (hg := wi hg5);simp only [List.length_map];refine qg ?_ (hg := wi hg5);refine qt hg5 ?_;refine qm ?_;refine qs ?_ (hg := wn hg17);refine qs ?_ (hg := wn hg17);refine qs ?_ (hg := wn hg17);refine qu hg17 ?_;refine qm ?_;refine qs ?_;refine qs ?_;refine qs ?_;refine qs ?_;refine qs ?_;refine qs ?_;refine qs ?_;refine qs ?_;refine qs ?_;refine qs ?_;refine qg ?_;refine qe hK ?_;refine qC ?_;refine EvC.exit ?_;obtain ⟨_, hjo, hQ, l, rfl⟩ := hexit _ hH;refine qq ?_;refine qj fun K hK => ?_;refine qm ?_;refine qv (hjo) ?_;refine qm ?_;refine qe hK ?_;refine EvC.ret ⟨rx, _, _, _, rfl, leaveD_rw (rfl), ?_⟩;exact ⟨s1, hQ, hH0.leaveRw1 hS2 (hH.erase 2)⟩
 ·have hg5 : (s1.e == 0) = false := by simpa using he1
  refine qq ?_;refine qq ?_;refine qj fun K hK => ?_;refine qm ?_;refine qg ?_;refine qp (o := 5) ?_;refine ql hH at0 ?_;refine qg ?_;refine qm ?_;refine qs ?_ (hg := wn hg5);refine qs ?_ (hg := wn hg5);refine qs ?_ (hg := wn hg5);refine qs ?_ (hg := wn hg5);refine qs ?_ (hg := wn hg5);refine qs ?_ (hg := wn hg5);refine qs ?_ (hg := wn hg5);refine qs ?_ (hg := wn hg5);refine qs ?_ (hg := wn hg5);refine qs ?_ (hg := wn hg5);refine qu hg5 ?_;refine qm ?_;refine qs ?_;refine qs ?_;refine qs ?_;refine qg ?_;refine qm ?_;refine qs ?_;refine qs ?_;refine qs ?_;refine qs ?_;refine qs ?_;refine qs ?_;refine qs ?_;refine qs ?_;refine qs ?_;refine qs ?_;refine qg ?_;refine qe hK ?_;refine qC ?_;refine EvC.exit ?_;obtain ⟨_, hjo, hQ, l, rfl⟩ := hexit _ hH;refine qq ?_;refine qj fun K hK => ?_;refine qm ?_;refine qv (hjo) ?_;refine qm ?_;refine qe hK ?_;refine EvC.ret ⟨rx, _, _, _, rfl, leaveD_rw (rfl), ?_⟩;exact ⟨s1, hQ, hH0.leaveRw1 hS2 (hH.erase 2)⟩
theorem alt2_ev : ∀ m : Nat, AltSpec m := by
 intro m
 induction m using Nat.strongRecOn with
 | ind m ih0 =>
 have hA : ∀ m', m' + 1 = m → AltSpec m' := fun m' h => ih0 m' (by omega);intro N k S s0 H gs plD pls s hok he hi hg ho hH;have hgl := hok.gl;have hpl := hok.pl;refine Ev.mkE rfl fi54 rfl rfl rfl ?_;dsimp only [u3, u4, List.length, Nat.reduceSub, Nat.reduceAdd, w1, w2];have hH0 := hH;have hH := hH.enterRw;have hS2 : (enterSt .rw s0).bs = s0.bs := rfl;generalize enterSt .rw s0 = S2 at *;refine qq ?_;refine qj fun K hK => ?_;refine qm ?_;refine qe hK ?_;refine qq ?_;refine qj fun K hK => ?_;refine qm ?_;obtain ⟨_, st, hev, s1, ⟨p1, p2, p3, p4, l, rfl, p5, p6⟩, hH⟩ := cat_ev hA hok he hi hg ho hH;refine qv hev ?_;refine qh (s := 1) (vs := [_]) hH fun k6 st hk6 hH => ?_;dsimp only [u2, u1, u3, u4, setMany, u5, u6, D.cells, Nat.reduceAdd, prsC, gotC, intC, rangeC, partC] at hH;refine qm ?_;refine qe hK ?_;have hH : Has N S2 st (.box k (.mem 0 false (prsC gs plD s1)) :: .lst plD 1 (pls.map intC) :: .lst (.win k6 0 0 1 1) 1 ([l].map partC) :: H) := Has_rot3 hH;refine qq ?_;refine EvC.block ?_;refine EvC.loop (fun mm fr st => ∃ (s1 : Prs) (pd : D) (parts : List (List Nod)), fr.clean = ⟨4, [.ptr k 0 0, ixF_Pj fr 1, ixF_Pj fr 2, pd], []⟩ ∧ Has N S2 st (.box k (.mem 0 false (prsC gs plD s1)) :: .lst plD 1 (pls.map intC) :: .lst pd 1 (parts.map partC) :: H) ∧ (s1.o = s.o) ∧ (s1.g ≤ 4) ∧ (s.i ≤ s1.i) ∧ (s1.i ≤ gs.length) ∧ (∀ l ∈ parts, ∀ n ∈ l, NdV n) ∧ (sumL parts + 3 * parts.length ≤ 4 * (s1.i - s.i) + 4) ∧ (1 ≤ parts.length) ∧ (gs.length - s1.i ≤ mm)) (gs.length) ?_ ?_
 ·exact ⟨s1, .win k6 0 0 1 1, [l], rfl, hH, p1, p2, p3, p4, (fun l' hl' => by simp only [List.mem_cons, List.not_mem_nil, or_false] at hl'; subst hl'; exact p5), by simp only [sumL, List.length_cons, List.length_nil]; omega, by simp, by omega⟩
 rintro mm fr st ⟨s1, pd, parts, hfr, hH, h1, h2, h3, h4, h5, h6, h8, hmm⟩;rw [hfr];clear hfr;generalize ixF_Pj fr = ee;clear fr
 have hexit : ∀ st : St, Has N S2 st (.box k (.mem 0 false (prsC gs plD s1)) :: .lst plD 1 (pls.map intC) :: .lst pd 1 (parts.map partC) :: H) → ∃ d, Ev pv 72 [.int .i64 4, pd] st d st ∧ NodesQ gs s s1 d ∧ ∃ l, d = nlD l := by
  intro st hH;obtain ⟨_, hev, l, rfl, j1, j2, j3⟩ := joined_ev 4 (hH.rows at2) h5 (by omega) (by omega);refine ⟨_, hev, ⟨h1, h2, h3, h4, l, rfl, j1, ?_⟩, l, rfl⟩
  by_cases q1 : parts.length = 1
  ·have := j2 q1; omega
  ·omega
 by_cases he1 : s1.e = 0
 ·have hg5 : (s1.e == 0) = true := by simpa using he1
  obtain ⟨k1, k2, k3, k4, k5⟩ := skip_i (gs := gs) (s := s1) (r := 124);have k5 := k5 h4;refine qq ?_;refine qq ?_;refine qj fun K hK => ?_;refine qm ?_;refine qg ?_;refine qp (o := 5) ?_;refine ql hH at0 ?_;refine qg ?_;refine qm ?_;refine qm ?_ (hg := wi hg5);obtain ⟨_, st, hev, rfl, hH⟩ := skip_ev (s := s1) (by omega) 124 hH;refine qv hev ?_ (hg := wi hg5);refine qt hg5 ?_;refine qe hK ?_
  cases hb : isS gs s1.i 124 with
  | false =>
   rw [skip_no hb] at hH;refine qC ?_;refine EvC.exit ?_;obtain ⟨_, hjo, hQ, l, rfl⟩ := hexit _ hH;refine qq ?_;refine qj fun K hK => ?_;refine qm ?_;refine qv (hjo) ?_;refine qm ?_;refine qe hK ?_;refine EvC.ret ⟨rx, _, _, _, rfl, leaveD_rw (rfl), ?_⟩;exact ⟨s1, hQ, hH0.leaveRw1 hS2 (hH.erase 2)⟩
  | true =>
   have k6 := skip_yes hb;generalize skipS gs s1 124 = s2 at *;refine qB ?_;refine EvC.skip ?_;refine EvC.block ?_;refine qj fun K hK => ?_;refine qm ?_;refine qm ?_;obtain ⟨_, st, hev, s3, ⟨r1, r2, r3, r4, l, rfl, r5, r6⟩, hH⟩ := cat_ev hA hok (s := s2) (by omega) k5 (by omega) (by omega) hH;refine qv hev ?_;refine qh (s := 1) (vs := [_]) hH fun k19 st hk19 hH => ?_;dsimp only [u2, u1, u3, u4, setMany, u5, u6, D.cells, Nat.reduceAdd, prsC, gotC, intC, rangeC, partC] at hH;refine EvO.happend (s := 1) hH rfl (ev rfl) (ev rfl) (by exact at3) (by exact hH.rows (by exact at0)) rfl rfl rfl rfl rfl rfl rfl ⟨(Nat.le_of_ble_eq_true rfl), (Nat.le_of_ble_eq_true rfl)⟩ (fun _ => (put_T rfl _)) (by simp only [List.length_cons, List.length_nil, List.length_map] <;> omega) (by exact .inr rfl) (fun x20 st hH => ?_);dsimp only [u2, u1, u3, u4, setMany, u5, u6, D.cells, Nat.reduceAdd, prsC, gotC, intC, rangeC, partC] at hH;refine qm ?_;refine qe hK ?_;have hH := hH.drop 1;refine ⟨mm - 1, by omega, ⟨s3, x20, parts ++ [l], rfl, (by rw [List.map_append]; exact hH), by omega, r2, by omega, r4, ?_, by rw [sumL_append, List.length_append]; simp only [sumL, List.length_cons, List.length_nil]; omega, by rw [List.length_append]; omega, by omega⟩⟩;intro l' hl'
   rcases List.mem_append.1 hl' with hl' | hl'
   ·exact h5 l' hl'
   ·simp only [List.mem_cons, List.not_mem_nil, or_false] at hl'; subst hl'; exact r5
 ·have hg5 : (s1.e == 0) = false := by simpa using he1
  refine qq ?_;refine qq ?_;refine qj fun K hK => ?_;refine qm ?_;refine qg ?_;refine qp (o := 5) ?_;refine ql hH at0 ?_;refine qg ?_;refine qm ?_;refine qs ?_ (hg := wn hg5);refine qs ?_ (hg := wn hg5);refine qu hg5 ?_;refine qe hK ?_;refine qC ?_;refine EvC.exit ?_;obtain ⟨_, hjo, hQ, l, rfl⟩ := hexit _ hH;refine qq ?_;refine qj fun K hK => ?_;refine qm ?_;refine qv (hjo) ?_;refine qm ?_;refine qe hK ?_;refine EvC.ret ⟨rx, _, _, _, rfl, leaveD_rw (rfl), ?_⟩;exact ⟨s1, hQ, hH0.leaveRw1 hS2 (hH.erase 2)⟩
abbrev Cps := Nat → Int
structure Tr3 where
 pc : Nat
 at_ : Nat
 c : Cps
def okT (p : Pg) (gs : List (Nat × Nat)) (t : Tr3) : Prop := t.pc < p.code.length ∧ t.at_ ≤ gs.length
theorem allS_len : ∀ (n : Nat) (b : List UInt8), b.length ≤ n → (allS b).length ≤ b.length ∧ ∀ g ∈ allS b, g.2 ≤ b.length := by
 intro n
 induction n with
 | zero =>
  intro b hb;have : b = [] := List.length_eq_zero_iff.1 (by omega);subst this;rw [allS_nil]; exact ⟨Nat.le_refl _, fun g hg => by cases hg⟩
 | succ n ih =>
  intro b hb
  by_cases h : b = []
  ·subst h; rw [allS_nil]; exact ⟨Nat.le_refl _, fun g hg => by cases hg⟩
  ·have hp := oneS_pos b;have hl := oneS_le h;obtain ⟨h1, h2⟩ := ih (b.drop (oneS b).2) (by rw [List.length_drop]; omega);rw [List.length_drop] at h1 h2;rw [allS_cons h];refine ⟨by rw [List.length_cons]; omega, fun g hg => ?_⟩
   rcases List.mem_cons.1 hg with rfl | hg
   ·exact hl
   ·have := h2 g hg; omega
def ixF_Pk (fr : Go.V.Fr) (k : Nat) : Go.V.D := Go.V.nth .junk fr.loc k
def ParseP (d : D) : Prop := ∃ (l : List Nod) (e w : Int), d = .tup [nlD l, .int .i64 e, .int .i64 w] ∧ (∀ n ∈ l, NdV n) ∧ l.length ≤ 500
theorem parse_ev {s0 : St} {b : List UInt8} (hbl : b.length ≤ 1048576) : ∃ d, Ev pv 30 [.str b] s0 d s0 ∧ ParseP d := by
 obtain ⟨hgl, hgs⟩ := allS_len _ b (Nat.le_refl _);have hev : ∀ (st : St) (x : D), Bytes st x b → Ev pv 53 [x] st (gotsD (allS b)) st := fun st x h => all_ev h hbl;generalize allS b = gs at *;refine Ev.mkR rfl fi30 rfl rfl rfl ?_;dsimp only [u3, u4, List.length, Nat.reduceSub, Nat.reduceAdd, w1, w2];obtain ⟨hSb, hF, hH⟩ := ri s0;generalize enterSt .ro s0 = S at *;have hgr : Arg s0.bs.length S 2 (gotsD gs) (gs.map gotC) := Arg.pure (fun st => gots_rows st gs);refine qq ?_;refine qj fun K hK => ?_;refine qm ?_;refine qm ?_;refine qm ?_;refine qe hK ?_;refine qq ?_;refine qq ?_;refine qj fun K hK => ?_;refine qm ?_;refine EvO.slen rfl rfl rfl (by dsimp only [Fr.put, u1, u2] <;> rfl) ?_;refine qg ?_;refine qe hK ?_
 by_cases hlong : 120 < b.length
 ·have hcc : decide (((b.length : Nat) : Int) > 120) = true := by rw [decide_eq_true_eq]; omega
  refine qD rfl (by rw [hcc]) ?_;refine qq ?_;refine qj fun K hK => ?_;refine qm ?_;refine qm ?_;refine qm ?_;refine qe hK ?_;refine EvC.ret ⟨rx, _, _, rfl, rl hSb hH (rfl), ?_⟩;exact ⟨[], 2, 0, rfl, fun n hn => (by cases hn), by simp⟩
 have hcc : decide (((b.length : Nat) : Int) > 120) = false := by rw [decide_eq_false_iff_not]; omega
 refine qE rfl (by rw [hcc]) ?_;refine EvC.skip ?_;refine qq ?_;refine qj fun K hK => ?_;refine qm ?_;refine EvO.hbytes hH rfl rfl rfl rfl rfl (by omega) (fun _ => by dsimp only [Fr.put, u1, u2] <;> rfl) (fun k14 st hk14 hH => ?_);refine qv ((hev _ _ (hH.rows at0))) ?_;refine EvO.go (d := .agg [gotsD gs, .nul, .int .i64 0, .int .i64 0, .int .i64 0, .int .i64 0, .int .i64 0]) (st1 := _) rfl rfl rfl (by dsimp only [Fr.put, u1, u2] <;> rfl) ?_;refine qb hH fun k17 st hk17 hH => ?_;refine qm ?_;refine qe hK ?_;refine qq ?_;refine qj fun K hK => ?_;refine qm ?_;refine qe hK ?_;refine qq ?_;refine qq ?_;refine qj fun K hK => ?_;refine qm ?_;refine qg ?_;refine qp (o := 0) ?_;refine ql hH at0 ?_;refine qn ?_;simp only [List.length_map];refine qm ?_;refine qe hK ?_;have hH : Has s0.bs.length S st (.box k17 (.mem 0 false [gotsD gs, .nul, .int .i64 0, .int .i64 0, .int .i64 0, .int .i64 0, .int .i64 0]) :: .lst .nul 1 (([] : List Int).map intC) :: []) := ((hH.erase 1).nulE 1).front at1;refine EvC.block ?_;refine EvC.loop (fun mm fr st => ∃ (i a : Nat) (pd : D) (pls : List Int), fr.clean = ⟨24, [ixF_Pk fr 0, ixF_Pk fr 1, ixF_Pk fr 2, ixF_Pk fr 3, ixF_Pk fr 4, .ptr k17 0 0, .int .i64 (a : Nat), ixF_Pk fr 7, ixF_Pk fr 8, ixF_Pk fr 9, ixF_Pk fr 10, ixF_Pk fr 11, ixF_Pk fr 12, ixF_Pk fr 13, ixF_Pk fr 14, ixF_Pk fr 15, ixF_Pk fr 16, ixF_Pk fr 17, ixF_Pk fr 18, ixF_Pk fr 19, ixF_Pk fr 20, gotsD gs, .int .i64 (gs.length : Nat), .int .i64 (i : Nat)], []⟩ ∧ Has s0.bs.length S st [.box k17 (.mem 0 false [gotsD gs, pd, .int .i64 0, .int .i64 0, .int .i64 0, .int .i64 0, .int .i64 0]), .lst pd 1 (pls.map intC)] ∧ (i + mm = gs.length) ∧ (pls.length = i) ∧ (a ≤ 120 * i)) (gs.length) ?_ ?_
 ·exact ⟨0, 0, .nul, [], rfl, hH, by omega, rfl, by omega⟩
 rintro mm fr st ⟨i, a, pd, pls, hfr, hH, hi, hpl, ha⟩;rw [hfr];clear hfr;generalize ixF_Pk fr = ee;clear fr;refine qq ?_;refine qj fun K hK => ?_;refine qg ?_;refine qe hK ?_
 by_cases hlt : i < gs.length
 ·obtain ⟨g, hg⟩ : ∃ g, gs[i]? = some g := ⟨gs[i]'hlt, List.getElem?_eq_getElem _⟩
  have hr1 : (gs.map gotC)[i]? = some (gotC g) := by rw [List.getElem?_map, hg]; rfl
  have hg2 := hgs g (List.mem_of_getElem? hg);have hc2 : decide (((i : Nat) : Int) < ((gs.length : Nat) : Int)) = true := by rw [decide_eq_true_eq]; omega
  refine qq ?_;refine qD rfl (by rw [hc2]) ?_;refine EvC.skip ?_;refine qq ?_;refine EvC.block ?_;refine qq ?_;refine qj fun K hK => ?_;refine qr fun p25 hp25 => ?_;refine EvO.rloadS rfl (ev rfl) (by assumption) rfl (put_T rfl _) ?_;refine qa hH fun k8 st hk8 hH => ?_;refine qS hH at0 fun st hH => ?_;dsimp only [u2, u1, u3, u4, setMany, u5, u6, D.cells, Nat.reduceAdd, prsC, gotC, intC] at hH;refine qe hK ?_;refine qq ?_;refine qj fun K hK => ?_;refine qm ?_;refine qm ?_;refine qg ?_;refine qp (o := 1) ?_;refine ql hH at1 ?_;refine qm ?_;refine qh (s := 1) (vs := [_]) hH fun k33 st hk33 hH => ?_;refine EvO.happend (s := 1) hH rfl (ev rfl) (ev rfl) (by exact at3) (by exact hH.rows (by exact at0)) rfl rfl rfl rfl rfl rfl rfl ⟨(Nat.le_of_ble_eq_true rfl), (Nat.le_of_ble_eq_true rfl)⟩ (fun _ => (put_T rfl _)) (by simp only [List.length_cons, List.length_nil, List.length_map] <;> omega) (by exact .inl hF) (fun x34 st hH => ?_);dsimp only [u2, u1, u3, u4, setMany, u5, u6, D.cells, Nat.reduceAdd, prsC, gotC, intC] at hH;refine qg ?_;refine qp (o := 1) ?_;refine qT hH at2 (fun st hH => ?_) (hcs := hH.ocells at3);dsimp only [u2, u1, u3, u4, setMany, u5, u6, D.cells, Nat.reduceAdd, prsC, gotC, intC] at hH;refine qe hK ?_;refine qj fun K hK => ?_;refine qm ?_;refine qp (o := 1) ?_;refine ql hH at1 ?_;refine EvO.addN rfl (ev rfl) (ev rfl) (by omega) (put_T rfl _) ?_;refine qm ?_;refine qe hK ?_;refine qj fun K hK => ?_;refine qA ?_;refine qm ?_;refine qe hK ?_;exact ⟨mm - 1, by omega, ⟨i + 1, a + g.2, x34, pls ++ [((a : Nat) : Int)], rfl, (by rw [List.map_append]; exact hH.drop 2), by omega, by rw [List.length_append, hpl]; rfl, by omega⟩⟩
 ·have hc2 : decide (((i : Nat) : Int) < ((gs.length : Nat) : Int)) = false := by rw [decide_eq_false_iff_not]; omega
  refine qq ?_;refine qE rfl (by rw [hc2]) ?_;refine EvC.exit ?_
  have hok : PrsOk gs pls := ⟨by omega, by omega⟩
  have hH : Has s0.bs.length S st (.box k17 (.mem 0 false (prsC gs pd ⟨0, 0, 0, 0, 0⟩)) :: .lst pd 1 (pls.map intC) :: []) := hH;refine qq ?_;refine qj fun K hK => ?_;refine qm ?_;obtain ⟨_, st, hev, s1, ⟨p1, p2, p3, p4, l, rfl, p5, p6⟩, hH⟩ := alt2_ev 20 (s := ⟨0, 0, 0, 0, 0⟩) hok rfl (by simp) (by simp) rfl hH;refine qv hev ?_;refine qm ?_;refine qe hK ?_;have p6 : l.length ≤ 4 * (s1.i - 0) + 1 := p6;refine qq ?_;refine qq ?_;refine EvC.merge3 (fun fr st => ∃ (s2 : Prs) (tmp : List (Nat × D)), fr = ⟨24, [ixF_Pk fr 0, ixF_Pk fr 1, ixF_Pk fr 2, ixF_Pk fr 3, ixF_Pk fr 4, .ptr k17 0 0, ixF_Pk fr 6, ixF_Pk fr 7, ixF_Pk fr 8, nlD l, ixF_Pk fr 10, ixF_Pk fr 11, ixF_Pk fr 12, ixF_Pk fr 13, ixF_Pk fr 14, ixF_Pk fr 15, ixF_Pk fr 16, ixF_Pk fr 17, ixF_Pk fr 18, ixF_Pk fr 19, ixF_Pk fr 20, ixF_Pk fr 21, ixF_Pk fr 22, ixF_Pk fr 23], tmp⟩ ∧ Has s0.bs.length S st (.box k17 (.mem 0 false (prsC gs pd s2)) :: .lst pd 1 (pls.map intC) :: []) ∧ (True)) ?_ ?_
  ·by_cases he1 : s1.e = 0
   ·have hg5 : (s1.e == 0) = true := by simpa using he1
    refine qj fun K hK => ?_;refine qm ?_;refine qg ?_;refine qp (o := 5) ?_;refine ql hH at0 ?_;refine qg ?_;refine qm ?_;refine qm ?_ (hg := wi hg5);refine qg ?_ (hg := wi hg5);refine qp (o := 2) ?_ (hg := wi hg5);refine ql hH at0 ?_ (hg := wi hg5);refine qm ?_ (hg := wi hg5);refine qg ?_ (hg := wi hg5);refine qp (o := 0) ?_ (hg := wi hg5);refine ql hH at0 ?_ (hg := wi hg5);refine qn ?_ (hg := wi hg5);simp only [List.length_map];refine qg ?_ (hg := wi hg5);refine qt hg5 ?_;refine qe hK ?_;refine EvC.cond (by rfl) (fun hin => ?_) (fun hin => ?_) <;> try simp only [decide_eq_true_eq, decide_eq_false_iff_not] at hin
    ·refine qj fun K hK => ?_;refine qm ?_;refine qm ?_;refine qg ?_;refine qp (o := 2) ?_;refine ql hH at0 ?_;obtain ⟨_, st, hev, rfl, hH⟩ := wrong_ev (s := s1) s1.i 4 (by omega) hH;refine qv hev ?_;refine qe hK ?_;exact ⟨_, _, rfl, hH, trivial⟩
    ·refine EvC.skip ?_;exact ⟨s1, _, rfl, hH, trivial⟩
   ·have hg5 : (s1.e == 0) = false := by simpa using he1
    refine qj fun K hK => ?_;refine qm ?_;refine qg ?_;refine qp (o := 5) ?_;refine ql hH at0 ?_;refine qg ?_;refine qm ?_;refine qs ?_ (hg := wn hg5);refine qs ?_ (hg := wn hg5);refine qs ?_ (hg := wn hg5);refine qs ?_ (hg := wn hg5);refine qs ?_ (hg := wn hg5);refine qs ?_ (hg := wn hg5);refine qs ?_ (hg := wn hg5);refine qs ?_ (hg := wn hg5);refine qs ?_ (hg := wn hg5);refine qs ?_ (hg := wn hg5);refine qu hg5 ?_;refine qe hK ?_;refine qC ?_;refine EvC.skip ?_;exact ⟨s1, _, rfl, hH, trivial⟩
  ·rintro fr st ⟨s2, tmp, hfr, hH, ht⟩;rw [hfr];clear hfr;generalize ixF_Pk fr = ee;clear fr;refine qq ?_;refine qq ?_;refine qj fun K hK => ?_;refine qm ?_;refine qg ?_;refine qp (o := 5) ?_;refine ql hH at0 ?_;refine qg ?_;refine qe hK ?_;refine EvC.cond (by rfl) (fun hne => ?_) (fun hne => ?_) <;> try simp only [bne_iff_ne, bne_eq_false_iff_eq, ne_eq] at hne
   ·refine qq ?_;refine qj fun K hK => ?_;refine qm ?_;refine qg ?_;refine qp (o := 5) ?_;refine ql hH at0 ?_;refine qm ?_;refine qg ?_;refine qp (o := 6) ?_;refine ql hH at0 ?_;refine qm ?_;refine qm ?_;refine qm ?_;refine qe hK ?_;refine EvC.ret ⟨rx, _, _, rfl, rl hSb hH (rfl), ?_⟩;exact ⟨[], _, _, rfl, fun n hn => (by cases hn), by simp⟩
   ·refine EvC.skip ?_;refine qq ?_;refine qj fun K hK => ?_;refine qm ?_;refine qm ?_;refine qm ?_;refine qm ?_;refine qe hK ?_;refine EvC.ret ⟨rx, _, _, rfl, rl hSb hH (rfl), ?_⟩;exact ⟨l, 0, 0, rfl, p5, by omega⟩
def plainN (n : Nod) : Bool := ((n.op == 2) || ((n.rs.length : Nat) : Int) == 0) && ((n.op == 5) || ((n.mn == 0) && (n.mx == 0) && !n.lz)) && ((n.op == 6) || (n.cap == 0))
noncomputable def shapeN (n : Nod) (g : Int) : Int × Bool :=
  if plainN n = false then (0, false)
  else if n.op = 1 ∨ n.op = 7 ∨ n.op = 8 then (0, n.kids == 0)
  else if n.op = 2 then (0, (n.kids == 0) && rightS n.rs)
  else if n.op = 3 ∨ n.op = 4 then (n.kids, decide (n.kids ≥ 2))
  else if n.op = 5 then (1, (n.kids == 1) && decide (n.mn ≥ 0) && decide (n.mn ≤ 30) && ((n.mx == -1) || (decide (n.mx ≥ n.mn) && decide (n.mx ≤ 30))))
  else if n.op = 6 then (1, (n.kids == 1) && (n.cap == g + 1) && decide (n.cap ≤ 4))
  else (0, false)
def kidsS (h : Nat → Nat → Option (Nat × Nat)) : Nat → Nat → Nat → Option (Nat × Nat)
  | 0, at_, g => some (at_, g)
  | k + 1, at_, g => match h at_ g with
    | some r => kidsS h k r.1 r.2
    | none => none
noncomputable def oneW (l : List Nod) : Nat → Nat → Nat → Option (Nat × Nat)
  | 0, _, _ => none
  | f + 1, at_, g => match l[at_]? with
    | none => none
    | some n => if (shapeN n (g : Nat)).2 = true then kidsS (oneW l f) (shapeN n (g : Nat)).1.toNat (at_ + 1) (if n.op = 6 then g + 1 else g) else none
theorem shape_ok {n : Nod} {g : Nat} (h : (shapeN n (g : Nat)).2 = true) : nodOk n (shapeN n (g : Nat)).1.toNat ∧ 0 ≤ (shapeN n (g : Nat)).1 ∧ (n.op = 6 → n.cap = g + 1 ∧ n.cap ≤ 4) := by
  unfold shapeN at h ⊢
  unfold nodOk
  by_cases h0 : plainN n = false
  · rw [if_pos h0] at h; cases h
  rw [if_neg h0] at h ⊢
  by_cases h1 : n.op = 1 ∨ n.op = 7 ∨ n.op = 8
  · rw [if_pos h1] at h ⊢
    simp only [beq_iff_eq] at h
    exact ⟨⟨h, .inl ⟨h1, rfl⟩⟩, Int.le_refl _, fun h6 => by omega⟩
  rw [if_neg h1] at h ⊢
  by_cases h2 : n.op = 2
  · rw [if_pos h2] at h ⊢
    simp only [Bool.and_eq_true, beq_iff_eq] at h
    exact ⟨⟨h.1, .inr (.inl ⟨h2, rfl⟩)⟩, Int.le_refl _, fun h6 => by omega⟩
  rw [if_neg h2] at h ⊢
  by_cases h3 : n.op = 3 ∨ n.op = 4
  · rw [if_pos h3] at h ⊢
    simp only [decide_eq_true_eq] at h
    exact ⟨⟨by simp only; omega, .inr (.inr (.inl ⟨h3, by simp only; omega⟩))⟩, by simp only; omega, fun h6 => by omega⟩
  rw [if_neg h3] at h ⊢
  by_cases h5 : n.op = 5
  · rw [if_pos h5] at h ⊢
    simp only [Bool.and_eq_true, Bool.or_eq_true, beq_iff_eq, decide_eq_true_eq] at h
    exact ⟨⟨by simp only; omega, .inr (.inr (.inr (.inl ⟨h5, by simp only; rfl, by omega, by omega, by omega⟩)))⟩, by simp only; omega, fun h6 => by omega⟩
  rw [if_neg h5] at h ⊢
  by_cases h6 : n.op = 6
  · rw [if_pos h6] at h ⊢
    simp only [Bool.and_eq_true, beq_iff_eq, decide_eq_true_eq] at h
    exact ⟨⟨by simp only; omega, .inr (.inr (.inr (.inr ⟨h6, by simp only; rfl, by omega, by omega⟩)))⟩, by simp only; omega, fun _ => ⟨h.1.2, h.2⟩⟩
  rw [if_neg h6] at h
  cases h
theorem Seg.cons {α : Type} {L M : List α} {a : α} {at_ : Nat} (h : L[at_]? = some a) (h2 : Seg L (at_ + 1) M) : Seg L at_ (a :: M) := by
  obtain ⟨post, h2⟩ := h2
  refine ⟨post, ?_⟩
  have h3 : L[at_]'(lt_get h) = a := Option.some.inj ((List.getElem?_eq_getElem _).symm.trans h)
  rw [List.drop_eq_getElem_cons (lt_get h), h2, h3]; rfl
theorem Seg.append {α : Type} {L M M' : List α} {at_ : Nat} (h : Seg L at_ M) (h2 : Seg L (at_ + M.length) M') : Seg L at_ (M ++ M') := by
  obtain ⟨post, h⟩ := h
  obtain ⟨post', h2⟩ := h2
  refine ⟨post', ?_⟩
  rw [← List.drop_drop, h, List.drop_left] at h2
  rw [h, h2, List.append_assoc]
theorem Seg.none {α : Type} (L : List α) (at_ : Nat) : Seg L at_ [] := ⟨_, rfl⟩
theorem kids_tree {l : List Nod} {h : Nat → Nat → Option (Nat × Nat)} (ih : ∀ at_ g r, h at_ g = some r → ∃ t : Tr, t.ok ∧ Seg l at_ t.flat ∧ r.1 = at_ + t.flat.length) : ∀ k at_ g r, kidsS h k at_ g = some r → ∃ ts : Trs, ts.len = k ∧ ts.ok ∧ Seg l at_ ts.flat ∧ r.1 = at_ + ts.flat.length
  | 0, at_, g, r, e => by
    simp only [kidsS, Option.some.injEq] at e
    subst e
    exact ⟨.nil, rfl, trivial, Seg.none _ _, by simp [Trs.flat]⟩
  | k + 1, at_, g, r, e => by
    unfold kidsS at e
    cases hq : h at_ g with
    | none => rw [hq] at e; cases e
    | some q =>
      rw [hq] at e
      obtain ⟨t, t1, t2, t3⟩ := ih _ _ _ hq
      obtain ⟨ts, u1, u2, u3, u4⟩ := kids_tree ih k _ _ _ e
      rw [t3] at u3 u4
      exact ⟨.cons t ts, by simp [Trs.len, u1], by simp only [Trs.ok]; exact ⟨t1, u2⟩, by simp only [Trs.flat]; exact t2.append u3, by rw [u4]; simp only [Trs.flat, List.length_append]; omega⟩
theorem one_tree {l : List Nod} : ∀ f at_ g r, oneW l f at_ g = some r → ∃ t : Tr, t.ok ∧ Seg l at_ t.flat ∧ r.1 = at_ + t.flat.length
  | 0, _, _, _, e => by simp [oneW] at e
  | f + 1, at_, g, r, e => by
    unfold oneW at e
    cases hn : l[at_]? with
    | none => rw [hn] at e; cases e
    | some n =>
      rw [hn] at e
      simp only at e
      split at e
      · rename_i hs
        obtain ⟨ts, u1, u2, u3, u4⟩ := kids_tree (one_tree f) _ _ _ _ e
        have := (shape_ok hs).1
        rw [← u1] at this
        exact ⟨.mk n ts, by simp only [Tr.ok]; exact ⟨this, u2⟩, by simp only [Tr.flat]; exact Seg.cons hn u3, by rw [u4]; simp only [Tr.flat, List.length_cons]; omega⟩
      · cases e
noncomputable def rightN (l : List Nod) : Bool := (decide (1 ≤ l.length) && decide (l.length ≤ 480)) && (match oneW l 241 0 0 with | some r => decide (r.1 = l.length) | none => false)
theorem right_tree {l : List Nod} (h : rightN l = true) : ∃ t : Tr, t.ok ∧ t.flat = l := by
  unfold rightN at h
  simp only [Bool.and_eq_true] at h
  obtain ⟨_, h⟩ := h
  split at h
  · rename_i r hr
    obtain ⟨t, h1, ⟨post, h2⟩, h3⟩ := one_tree _ _ _ _ hr
    rw [decide_eq_true_eq] at h
    refine ⟨t, h1, ?_⟩
    rw [List.drop_zero] at h2
    have h4 := congrArg List.length h2
    rw [List.length_append] at h4
    have h5 : post = [] := List.length_eq_zero_iff.1 (by omega)
    rw [h2, h5, List.append_nil]
  · cases h
noncomputable def treeN (l : List Nod) : Tr := @dite _ (∃ t : Tr, t.ok ∧ t.flat = l) (Classical.propDecidable _) (fun h => Classical.choose h) (fun _ => .mk ⟨0, .nul, [], 0, 0, false, 0, 0⟩ .nil)
theorem tree_is {l : List Nod} (h : rightN l = true) : (treeN l).ok ∧ (treeN l).flat = l := by
  unfold treeN
  rw [dif_pos (right_tree h)]
  exact Classical.choose_spec (right_tree h)
theorem cap_nod {n : Nod} {k s : Nat} : min (nodSz n (min s 401) k) 401 = min (nodSz n s k) 401 := by
  by_cases hs : s ≤ 401
  · rw [Nat.min_eq_left hs]
  · have hx : min s 401 = 401 := by omega
    rw [hx]
    unfold nodSz
    split
    · rfl
    · split
      · omega
      · split
        · omega
        · split
          · split
            · omega
            · by_cases h0 : n.mn.toNat = 0
              · rw [h0]
                by_cases hd : n.mx.toNat - 0 = 0
                · rw [hd]; simp
                · have h1 := Nat.le_mul_of_pos_left (401 + 1) (show 0 < n.mx.toNat - 0 by omega)
                  have h2 := Nat.le_mul_of_pos_left (s + 1) (show 0 < n.mx.toNat - 0 by omega)
                  omega
              · have h1 := Nat.le_mul_of_pos_left 401 (show 0 < n.mn.toNat by omega)
                have h2 := Nat.le_mul_of_pos_left s (show 0 < n.mn.toNat by omega)
                omega
          · omega
def ruleC (t : Tr) (b r : Nat) : List PIns := mkI 4 0 0 [] :: (codeT t (b + 1) ++ [mkI 4 1 0 [], mkI 7 (r : Nat) 0 []])
theorem ruleC_len {t : Tr} {b r : Nat} (h : t.ok) : (ruleC t b r).length = t.sz + 3 := by
  unfold ruleC
  rw [List.length_cons, List.length_append, codeT_len t _ h]; rfl
structure CompR where
  code : List PIns
  starts : List Int
  e : Int
  w : Int
noncomputable def compS : List (List Nod) → Nat → List PIns → List Int → CompR
  | [], _, c, s => ⟨c, s, 0, 0⟩
  | l :: ls, r, c, s => if rightN l = false then ⟨[], [], 1, (r : Nat)⟩ else if 400 < c.length + min (treeN l).sz 401 + 3 then ⟨[], [], 12, (r : Nat)⟩ else compS ls (r + 1) (c ++ ruleC (treeN l) c.length r) (s ++ [((c.length : Nat) : Int)])
noncomputable def compileS (rules : List (List Nod)) : CompR := if 8 < rules.length then ⟨[], [], 13, 8⟩ else compS rules 0 [] []
def pgV (code : List PIns) (starts : List Int) : Pg := ⟨.sl ((code.map insC).map (elD 4)), code, intsV starts, starts⟩
def InsV (i : PIns) : Prop := i.rd = .sl ((i.rs.map rangeC).map (elD 2)) ∧ i.rs.length ≤ 1048576
theorem mkI_v (op x y : Int) : InsV (mkI op x y []) := ⟨rfl, by simp [mkI]⟩
theorem mkI_r (op x y : Int) {rs : List Rg} (h : rs.length ≤ 1048576) : InsV (mkI op x y rs) := ⟨rfl, h⟩
theorem spI_v (s o : Nat) (lz : Bool) : InsV (spI s o lz) := by unfold spI; split <;> exact mkI_v _ _ _
theorem jpI_v (e : Nat) : InsV (jpI e) := mkI_v _ _ _
theorem insV_plain {code : List PIns} (h : ∀ i ∈ code, InsV i) : ∀ e ∈ code.map insC, ∀ d ∈ e, plainC d = true := by
  intro e he d hd
  obtain ⟨q, hq, rfl⟩ := List.mem_map.1 he
  have hr := (h q hq).1
  simp only [insC, hr, List.mem_cons, List.not_mem_nil, or_false] at hd
  rcases hd with rfl | rfl | rfl | rfl <;> rfl
theorem ins_len (code : List PIns) : ∀ e ∈ code.map insC, e.length = 4 := by
  intro e he; obtain ⟨q, _, rfl⟩ := List.mem_map.1 he; rfl
theorem pgV_ok {code : List PIns} {starts : List Int} (h : ∀ i ∈ code, InsV i) (h1 : code.length ≤ 1048576) (h2 : starts.length ≤ 1048576) : (pgV code starts).ok := by
  refine ⟨SlD.frozen (ins_len code) (insV_plain h), intsV_sl _, fun i hi => ?_, h1, h2⟩
  obtain ⟨h3, h4⟩ := h i hi
  refine ⟨?_, h4⟩
  rw [h3]
  exact SlD.frozen (range_len _) (range_plain _)
theorem repC_v {c : Nat → List PIns} {z : Nat} (hc : ∀ b, ∀ i ∈ c b, InsV i) : ∀ k b, ∀ i ∈ repC c z k b, InsV i
  | 0, b, i, hi => by cases hi
  | k + 1, b, i, hi => by
    simp only [repC] at hi
    rcases List.mem_append.1 hi with hi | hi
    · exact hc b i hi
    · exact repC_v hc k _ i hi
theorem optC_v {sp : Nat → PIns} {c : Nat → List PIns} {z : Nat} (hs : ∀ s, InsV (sp s)) (hc : ∀ b, ∀ i ∈ c b, InsV i) : ∀ k b, ∀ i ∈ optC sp c z k b, InsV i
  | 0, b, i, hi => by cases hi
  | k + 1, b, i, hi => by
    simp only [optC] at hi
    rcases List.mem_cons.1 hi with rfl | hi
    · exact hs _
    · rcases List.mem_append.1 hi with hi | hi
      · exact hc _ i hi
      · exact optC_v hs hc k _ i hi
mutual
theorem codeT_v : ∀ (t : Tr) (b : Nat), (∀ n ∈ t.flat, n.rs.length ≤ 1048576) → ∀ i ∈ codeT t b, InsV i
  | .mk n ks, b, h, i, hi => by
    simp only [Tr.flat] at h
    have hn := h n (List.mem_cons_self ..)
    have hk : ∀ n ∈ ks.flat, n.rs.length ≤ 1048576 := fun m hm => h m (List.mem_cons_of_mem _ hm)
    have hc := fun b => catT_v ks b hk
    have ha := fun jp (hj : InsV jp) b => altT_v jp hj ks b hk
    simp only [codeT] at hi
    split at hi
    · simp only [List.mem_cons, List.not_mem_nil, or_false] at hi; subst hi; exact mkI_r _ _ _ hn
    split at hi
    · simp only [List.mem_cons, List.not_mem_nil, or_false] at hi; subst hi; exact mkI_v _ _ _
    split at hi
    · simp only [List.mem_cons, List.not_mem_nil, or_false] at hi; subst hi; exact mkI_v _ _ _
    split at hi
    · exact hc b i hi
    split at hi
    · exact ha _ (jpI_v _) b i hi
    split at hi
    · unfold rptC at hi
      split at hi
      · rcases List.mem_append.1 hi with hi | hi
        · exact repC_v hc _ _ i hi
        · rcases List.mem_cons.1 hi with rfl | hi
          · exact spI_v _ _ _
          · rcases List.mem_append.1 hi with hi | hi
            · exact hc _ i hi
            · simp only [List.mem_cons, List.not_mem_nil, or_false] at hi; subst hi; exact jpI_v _
      · rcases List.mem_append.1 hi with hi | hi
        · exact repC_v hc _ _ i hi
        · exact optC_v (fun s => spI_v _ _ _) hc _ _ i hi
    split at hi
    · rcases List.mem_cons.1 hi with rfl | hi
      · exact mkI_v _ _ _
      · rcases List.mem_append.1 hi with hi | hi
        · exact hc _ i hi
        · simp only [List.mem_cons, List.not_mem_nil, or_false] at hi; subst hi; exact mkI_v _ _ _
    · cases hi
theorem catT_v : ∀ (ts : Trs) (b : Nat), (∀ n ∈ ts.flat, n.rs.length ≤ 1048576) → ∀ i ∈ catT ts b, InsV i
  | .nil, b, _, i, hi => by simp [catT] at hi
  | .cons t ts, b, h, i, hi => by
    simp only [Trs.flat] at h
    simp only [catT] at hi
    rcases List.mem_append.1 hi with hi | hi
    · exact codeT_v t b (fun n hn => h n (List.mem_append_left _ hn)) i hi
    · exact catT_v ts _ (fun n hn => h n (List.mem_append_right _ hn)) i hi
theorem altT_v (jp : PIns) (hj : InsV jp) : ∀ (ts : Trs) (b : Nat), (∀ n ∈ ts.flat, n.rs.length ≤ 1048576) → ∀ i ∈ altT jp ts b, InsV i
  | .nil, b, _, i, hi => by simp [altT] at hi
  | .cons t ts, b, h, i, hi => by
    simp only [Trs.flat] at h
    have h1 : ∀ n ∈ t.flat, n.rs.length ≤ 1048576 := fun n hn => h n (List.mem_append_left _ hn)
    have h2 : ∀ n ∈ ts.flat, n.rs.length ≤ 1048576 := fun n hn => h n (List.mem_append_right _ hn)
    simp only [altT] at hi
    split at hi
    · exact codeT_v t b h1 i hi
    · rcases List.mem_cons.1 hi with rfl | hi
      · exact spI_v _ _ _
      · rcases List.mem_append.1 hi with hi | hi
        · exact codeT_v t _ h1 i hi
        · rcases List.mem_cons.1 hi with rfl | hi
          · exact hj
          · exact altT_v jp hj ts _ h2 i hi
end
theorem ruleC_v {t : Tr} {b r : Nat} (h : ∀ n ∈ t.flat, n.rs.length ≤ 1048576) : ∀ i ∈ ruleC t b r, InsV i := by
  intro i hi
  unfold ruleC at hi
  rcases List.mem_cons.1 hi with rfl | hi
  · exact mkI_v _ _ _
  · rcases List.mem_append.1 hi with hi | hi
    · exact codeT_v t _ h i hi
    · simp only [List.mem_cons, List.not_mem_nil, or_false] at hi
      rcases hi with rfl | rfl
      · exact mkI_v _ _ _
      · exact mkI_v _ _ _
end Go.Proofs.Ytbdilgkfnacahaa
