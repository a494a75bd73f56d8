/- own -/
import Derived.Test.YtnleclohocdkaaaTGTe
import Derived.Test.YtnleclohocdkaaaTGPc
import Derived.Test.YtnleclohocdkaaaTGQe
import Derived.Test.YtnleclohocdkaaaTGBh
set_option maxRecDepth 100000
set_option maxHeartbeats 4000000
set_option linter.unusedSimpArgs false
set_option linter.unusedVariables false
namespace Go.Proofs.Ytnleclohocdkaaa
open Go.V Go
def ixF_Ti (fr : Go.V.Fr) (k : Nat) : Go.V.D := Go.V.nth .junk fr.loc k
noncomputable def catL (A : PF) (gs : List (Nat × Nat)) (m : Nat) : Nat → Nat → Nat → List (List Nod) → PR (List Nod × Nat)
 | 0, i, g, ps => .ok (joinS 3 ps, g) i
 | n + 1, i, g, ps =>
  if i < gs.length ∧ isS gs i 124 = false ∧ (isS gs i 41 = false ∨ m = 20) then
   match repF A gs m i g with
   | .er e w => .er e w
   | .ok (l, g2) j => catL A gs m n j g2 (ps ++ [l])
  else .ok (joinS 3 ps, g) i
noncomputable def catF (A : PF) (gs : List (Nat × Nat)) (m i g : Nat) : PR (List Nod × Nat) := catL A gs m (gs.length + 1) i g []
noncomputable def altL (A : PF) (gs : List (Nat × Nat)) (m : Nat) : Nat → Nat → Nat → List (List Nod) → PR (List Nod × Nat)
 | 0, i, g, ps => .ok (joinS 4 ps, g) i
 | n + 1, i, g, ps =>
  if isS gs i 124 = true then
   match catF A gs m (i + 1) g with
   | .er e w => .er e w
   | .ok (l, g2) j => altL A gs m n j g2 (ps ++ [l])
  else .ok (joinS 4 ps, g) i
noncomputable def altB (A : PF) (gs : List (Nat × Nat)) (m : Nat) : PF := fun i g =>
 match catF A gs m i g with
 | .er e w => .er e w
 | .ok (l, g1) j => altL A gs m (gs.length + 1) j g1 [l]
noncomputable def altF (gs : List (Nat × Nat)) : Nat → PF
 | 0 => altB (fun i _ => .er 10 i) gs 0
 | m + 1 => altB (altF gs m) gs (m + 1)
theorem catX_ev {m : Nat} {gs : List (Nat × Nat)} {A : PF} (hA : ∀ m', m' + 1 = m → AltX A gs m') {N k : Nat} {S s0 : St} {H : List Ent} {plD : D} {pls : List Int} {s : Prs} (hok : PrsOk gs pls) (he : s.e = 0) (hi : s.i ≤ gs.length) (hg : s.g ≤ 4) (ho : s.o + m = 20) (hH : Has N S s0 (.box k (.mem 0 false (prsC gs plD s)) :: .lst plD 1 (pls.map intC) :: H)) :
  ∃ d st', Ev pv 71 [.ptr k 0 0] s0 d st' ∧ ∃ (s' : Prs), NodesXQ gs pls (catF A gs m s.i s.g) s s' d ∧ Has N S st' (.box k (.mem 0 false (prsC gs plD s')) :: .lst plD 1 (pls.map intC) :: H) := by
 have hgl := hok.gl;have hpl := hok.pl;refine Ev.mkE rfl fi71 rfl rfl rfl ?_;dsimp only [u3, u4, List.length, Nat.reduceSub, Nat.reduceAdd, w1, w2];have hH0 := hH;have hH := hH.enterRw;have hS2 : (enterSt .rw s0).bs = s0.bs := rfl;generalize enterSt .rw s0 = S2 at *
 obtain ⟨R, hR⟩ : ∃ R, catF A gs m s.i s.g = R := ⟨_, rfl⟩
 rw [hR];unfold catF at hR;have hgr : Arg N S2 2 (gotsD gs) (gs.map gotC) := Arg.pure (fun st => gots_rows st gs);refine qq ?_;refine qj fun K hK => ?_;refine qm ?_;refine qe hK ?_;refine qq ?_;refine qj fun K hK => ?_;refine qm ?_;refine qe hK ?_;have hH : Has N S2 S2 (.box k (.mem 0 false (prsC gs plD s)) :: .lst plD 1 (pls.map intC) :: .lst .nul 1 (([] : List (List Nod)).map partC) :: H) := Has_rot3 (hH.nulE 1);refine qq ?_;refine EvC.block ?_;refine EvC.loop (fun mm fr st => ∃ (s1 : Prs) (pd : D) (parts : List (List Nod)), fr.clean = ⟨4, [.ptr k 0 0, ixF_Ti fr 1, ixF_Ti fr 2, pd], []⟩ ∧ Has N S2 st (.box k (.mem 0 false (prsC gs plD s1)) :: .lst plD 1 (pls.map intC) :: .lst pd 1 (parts.map partC) :: H) ∧ (s1.o = s.o) ∧ (s1.g ≤ 4) ∧ (s.i ≤ s1.i) ∧ (s1.i ≤ gs.length) ∧ (∀ l ∈ parts, ∀ n ∈ l, NdV n) ∧ (sumL parts + parts.length ≤ 4 * (s1.i - s.i) + 2) ∧ (s1.e = 0 → sumL parts + parts.length ≤ 4 * (s1.i - s.i)) ∧ (ErrX R pls s1 ∨ s1.e = 0 ∧ ∃ n, gs.length - s1.i < n ∧ catL A gs m n s1.i s1.g parts = R) ∧ (gs.length - s1.i + (if s1.e = 0 then 1 else 0) ≤ mm)) (gs.length + 1) ?_ ?_
 ·exact ⟨s, .nul, [], rfl, hH, rfl, hg, Nat.le_refl _, hi, fun l hl => (by cases hl), by simp [sumL], fun _ => by simp [sumL], .inr ⟨he, gs.length + 1, by omega, hR⟩, by split <;> omega⟩
 rintro mm fr st ⟨s1, pd, parts, hfr, hH, h1, h2, h3, h4, h5, h6, h7, h8, hmm⟩;rw [hfr];clear hfr;generalize ixF_Ti fr = ee;clear fr
 have hexit : ∀ st : St, (ErrX R pls s1 ∨ s1.e = 0 ∧ R = .ok (joinS 3 parts, s1.g) s1.i) → Has N S2 st (.box k (.mem 0 false (prsC gs plD s1)) :: .lst plD 1 (pls.map intC) :: .lst pd 1 (parts.map partC) :: H) → ∃ d, Ev pv 73 [.int .i64 3, pd] st d st ∧ NodesXQ gs pls R s s1 d ∧ ∃ l, d = nlD l := by
  intro st hv hH;obtain ⟨hev, j1, j2, j3⟩ := joinedX_ev 3 (hH.rows at2) h5 (by omega) (by omega);refine ⟨_, hev, ⟨h1, h2, h3, h4, joinS 3 parts, rfl, j1, ?_, hv⟩, _, rfl⟩
  by_cases q1 : parts.length = 1
  ·have := j2 q1; omega
  ·by_cases q0 : parts.length = 0
   ·have : parts = [] := List.length_eq_zero_iff.1 q0;rw [this];show 1 ≤ _;omega
   ·omega
 by_cases he1 : s1.e = 0
 ·obtain ⟨n, hn1, hn2⟩ := (h8.resolve_left fun h => absurd he1 h.ne).2
  obtain ⟨n, rfl⟩ : ∃ m, n = m + 1 := ⟨n - 1, by omega⟩
  unfold catL at hn2;rw [if_pos he1] at hmm;have h7 := h7 he1;have hg5 : (s1.e == 0) = true := by simpa using he1
  by_cases hlt : s1.i < gs.length
  ·have hg17 : decide (((s1.i : Nat) : Int) < ((gs.length : Nat) : Int)) = true := by rw [decide_eq_true_eq]; omega
   cases hg22 : (!isS gs s1.i 124) with
   | false =>
    refine qq ?_;refine qq ?_;refine qj fun K hK => ?_;refine qm ?_;refine qg ?_;refine qp (o := 5) ?_;refine ql hH at0 ?_;refine qg ?_;refine qm ?_;refine qm ?_ (hg := wi hg5);refine qg ?_ (hg := wi hg5);refine qp (o := 2) ?_ (hg := wi hg5);refine ql hH at0 ?_ (hg := wi hg5);refine qm ?_ (hg := wi hg5);refine qg ?_ (hg := wi hg5);refine qp (o := 0) ?_ (hg := wi hg5);refine ql hH at0 ?_ (hg := wi hg5);refine qn ?_ (hg := wi hg5);simp only [List.length_map];refine qg ?_ (hg := wi hg5);refine qt hg5 ?_;refine qm ?_;refine qm ?_ (hg := wi hg17);obtain ⟨_, st, hev, rfl, hH⟩ := is_ev (s := s1) (by omega) 124 hH;refine qv hev ?_ (hg := wi hg17);refine qg ?_ (hg := wi hg17);refine qt hg17 ?_;refine qm ?_;refine qs ?_ (hg := wn hg22);refine qs ?_ (hg := wn hg22);refine qs ?_ (hg := wn hg22);refine qs ?_;refine qs ?_;refine qs ?_;refine qs ?_;refine qs ?_;refine qs ?_ (hg := wn hg22);refine qs ?_ (hg := wn hg22);refine qu hg22 ?_;refine qe hK ?_;refine qC ?_;refine EvC.exit ?_;obtain ⟨_, hjo, hQ, l, rfl⟩ := hexit _ (.inr ⟨he1, by rw [← hn2, if_neg (fun h => by rw [h.2.1] at hg22; simp at hg22)]⟩) hH;refine qq ?_;refine qj fun K hK => ?_;refine qm ?_;refine qv (hjo) ?_;refine qm ?_;refine qe hK ?_;refine EvC.ret ⟨rx, _, _, _, rfl, leaveD_rw (rfl), ?_⟩;exact ⟨s1, hQ, hH0.leaveRw1 hS2 (hH.erase 2)⟩
   | true =>
    cases hg25 : isS gs s1.i 41 with
    | false =>
     refine qq ?_;refine qq ?_;refine qj fun K hK => ?_;refine qm ?_;refine qg ?_;refine qp (o := 5) ?_;refine ql hH at0 ?_;refine qg ?_;refine qm ?_;refine qm ?_ (hg := wi hg5);refine qg ?_ (hg := wi hg5);refine qp (o := 2) ?_ (hg := wi hg5);refine ql hH at0 ?_ (hg := wi hg5);refine qm ?_ (hg := wi hg5);refine qg ?_ (hg := wi hg5);refine qp (o := 0) ?_ (hg := wi hg5);refine ql hH at0 ?_ (hg := wi hg5);refine qn ?_ (hg := wi hg5);simp only [List.length_map];refine qg ?_ (hg := wi hg5);refine qt hg5 ?_;refine qm ?_;refine qm ?_ (hg := wi hg17);obtain ⟨_, st, hev, rfl, hH⟩ := is_ev (s := s1) (by omega) 124 hH;refine qv hev ?_ (hg := wi hg17);refine qg ?_ (hg := wi hg17);refine qt hg17 ?_;refine qm ?_;refine qm ?_ (hg := wi hg22);obtain ⟨_, st, hev, rfl, hH⟩ := is_ev (s := s1) (by omega) 41 hH;refine qv hev ?_ (hg := wi hg22);refine qm ?_ (hg := wi hg22);refine qs ?_ (hg := wn hg25);refine qs ?_ (hg := wn hg25);refine qs ?_ (hg := wn hg25);refine qs ?_ (hg := wn hg25);refine qs ?_ (hg := wn hg25);refine EvO.pickF (wantD_is rfl rfl rfl hg22) rfl hg25 (put_T rfl _) ?_;refine qg ?_ (hg := wi hg22);refine qt hg22 ?_;refine qe hK ?_;refine qB ?_;refine EvC.skip ?_;refine EvC.block ?_;rw [if_pos ⟨hlt, by simpa using hg22, .inl hg25⟩] at hn2;refine qj fun K hK => ?_;refine qm ?_;refine qm ?_;obtain ⟨_, st, hev, s2, ⟨r1, r2, r3, r4, l, rfl, r5, r6, r7⟩, hH⟩ := repX_ev hA hok (s := s1) he1 hlt h2 (by omega) hH;refine qv hev ?_;refine qh (s := 1) (vs := [_]) hH fun k41 st hk41 hH => ?_;dsimp only [u2, u1, u3, u4, setMany, u5, u6, D.cells, Nat.reduceAdd, prsC, gotC, intC, rangeC, partC] at hH;refine EvO.happend (s := 1) hH rfl (ev rfl) (ev rfl) (by exact at3) (by exact hH.rows (by exact at0)) rfl rfl rfl rfl rfl rfl rfl ⟨(Nat.le_of_ble_eq_true rfl), (Nat.le_of_ble_eq_true rfl)⟩ (fun _ => (put_T rfl _)) (by simp only [List.length_cons, List.length_nil, List.length_map] <;> omega) (by exact .inr rfl) (fun x42 st hH => ?_);dsimp only [u2, u1, u3, u4, setMany, u5, u6, D.cells, Nat.reduceAdd, prsC, gotC, intC, rangeC, partC] at hH;refine qm ?_;refine qe hK ?_;have hH := hH.drop 1
     have r8 : s2.e = 0 → l.length + 1 ≤ 4 * (s2.i - s1.i) := fun e => by
      rcases r7 with r7 | r7
      ·exact absurd e r7.ne
      ·exact r7.2.2
     have r9 : ErrX R pls s2 ∨ s2.e = 0 ∧ ∃ n, gs.length - s2.i < n ∧ catL A gs m n s2.i s2.g (parts ++ [l]) = R := by
      rcases r7 with r7 | ⟨r7, r71, r72⟩
      ·exact .inl (r7.map fun e w h => by rw [← hn2, h])
      ·rw [r71] at hn2;exact .inr ⟨r7, n, by omega, hn2⟩
     have r10 : gs.length - s2.i + (if s2.e = 0 then 1 else 0) ≤ mm - 1 := by
      by_cases e : s2.e = 0
      ·have := r8 e;rw [if_pos e]; omega
      ·rw [if_neg e]; omega
     refine ⟨mm - 1, by omega, ⟨s2, x42, parts ++ [l], rfl, (by rw [List.map_append]; exact hH), by omega, r2, by omega, r4, ?_, by rw [sumL_append, List.length_append]; simp only [sumL, List.length_cons, List.length_nil]; omega, (fun e => by have := r8 e; rw [sumL_append, List.length_append]; simp only [sumL, List.length_cons, List.length_nil]; omega), r9, r10⟩⟩;intro l' hl'
     rcases List.mem_append.1 hl' with hl' | hl'
     ·exact h5 l' hl'
     ·simp only [List.mem_cons, List.not_mem_nil, or_false] at hl'; subst hl'; exact r5
    | true =>
     refine qq ?_;refine qq ?_;refine qj fun K hK => ?_;refine qm ?_;refine qg ?_;refine qp (o := 5) ?_;refine ql hH at0 ?_;refine qg ?_;refine qm ?_;refine qm ?_ (hg := wi hg5);refine qg ?_ (hg := wi hg5);refine qp (o := 2) ?_ (hg := wi hg5);refine ql hH at0 ?_ (hg := wi hg5);refine qm ?_ (hg := wi hg5);refine qg ?_ (hg := wi hg5);refine qp (o := 0) ?_ (hg := wi hg5);refine ql hH at0 ?_ (hg := wi hg5);refine qn ?_ (hg := wi hg5);simp only [List.length_map];refine qg ?_ (hg := wi hg5);refine qt hg5 ?_;refine qm ?_;refine qm ?_ (hg := wi hg17);obtain ⟨_, st, hev, rfl, hH⟩ := is_ev (s := s1) (by omega) 124 hH;refine qv hev ?_ (hg := wi hg17);refine qg ?_ (hg := wi hg17);refine qt hg17 ?_;refine qm ?_;refine qm ?_ (hg := wi hg22);obtain ⟨_, st, hev, rfl, hH⟩ := is_ev (s := s1) (by omega) 41 hH;refine qv hev ?_ (hg := wi hg22);refine qm ?_ (hg := wi hg22);refine qm ?_ (hg := wi hg25);refine qg ?_ (hg := wi hg25);refine qp (o := 3) ?_ (hg := wi hg25);refine ql hH at0 ?_ (hg := wi hg25);refine qg ?_ (hg := wi hg25);refine EvO.pickT (wantD_is rfl rfl rfl hg22) rfl hg25 (put_T rfl _) ?_;refine qg ?_ (hg := wi hg22);refine qt hg22 ?_;refine qe hK ?_
     by_cases hop : 0 < s1.o
     ·have hcc : (!decide (((s1.o : Nat) : Int) > 0)) = false := by rw [decide_eq_true (by omega)]; rfl
      refine qE rfl (by rw [hcc]) ?_;refine EvC.exit ?_;obtain ⟨_, hjo, hQ, l, rfl⟩ := hexit _ (.inr ⟨he1, by rw [← hn2, if_neg (fun h => by rcases h.2.2 with h | h; rw [hg25] at h; exact absurd h (by simp); omega)]⟩) hH;refine qq ?_;refine qj fun K hK => ?_;refine qm ?_;refine qv (hjo) ?_;refine qm ?_;refine qe hK ?_;refine EvC.ret ⟨rx, _, _, _, rfl, leaveD_rw (rfl), ?_⟩;exact ⟨s1, hQ, hH0.leaveRw1 hS2 (hH.erase 2)⟩
     ·have hcc : (!decide (((s1.o : Nat) : Int) > 0)) = true := by rw [decide_eq_false (by omega)]; rfl
      refine qD rfl (by rw [hcc]) ?_;refine EvC.skip ?_;refine EvC.block ?_;rw [if_pos ⟨hlt, by simpa using hg22, .inr (by omega)⟩] at hn2;refine qj fun K hK => ?_;refine qm ?_;refine qm ?_;obtain ⟨_, st, hev, s2, ⟨r1, r2, r3, r4, l, rfl, r5, r6, r7⟩, hH⟩ := repX_ev hA hok (s := s1) he1 hlt h2 (by omega) hH;refine qv hev ?_;refine qh (s := 1) (vs := [_]) hH fun k41 st hk41 hH => ?_;dsimp only [u2, u1, u3, u4, setMany, u5, u6, D.cells, Nat.reduceAdd, prsC, gotC, intC, rangeC, partC] at hH;refine EvO.happend (s := 1) hH rfl (ev rfl) (ev rfl) (by exact at3) (by exact hH.rows (by exact at0)) rfl rfl rfl rfl rfl rfl rfl ⟨(Nat.le_of_ble_eq_true rfl), (Nat.le_of_ble_eq_true rfl)⟩ (fun _ => (put_T rfl _)) (by simp only [List.length_cons, List.length_nil, List.length_map] <;> omega) (by exact .inr rfl) (fun x42 st hH => ?_);dsimp only [u2, u1, u3, u4, setMany, u5, u6, D.cells, Nat.reduceAdd, prsC, gotC, intC, rangeC, partC] at hH;refine qm ?_;refine qe hK ?_;have hH := hH.drop 1
      have r8 : s2.e = 0 → l.length + 1 ≤ 4 * (s2.i - s1.i) := fun e => by
       rcases r7 with r7 | r7
       ·exact absurd e r7.ne
       ·exact r7.2.2
      have r9 : ErrX R pls s2 ∨ s2.e = 0 ∧ ∃ n, gs.length - s2.i < n ∧ catL A gs m n s2.i s2.g (parts ++ [l]) = R := by
       rcases r7 with r7 | ⟨r7, r71, r72⟩
       ·exact .inl (r7.map fun e w h => by rw [← hn2, h])
       ·rw [r71] at hn2;exact .inr ⟨r7, n, by omega, hn2⟩
      have r10 : gs.length - s2.i + (if s2.e = 0 then 1 else 0) ≤ mm - 1 := by
       by_cases e : s2.e = 0
       ·have := r8 e;rw [if_pos e]; omega
       ·rw [if_neg e]; omega
      refine ⟨mm - 1, by omega, ⟨s2, x42, parts ++ [l], rfl, (by rw [List.map_append]; exact hH), by omega, r2, by omega, r4, ?_, by rw [sumL_append, List.length_append]; simp only [sumL, List.length_cons, List.length_nil]; omega, (fun e => by have := r8 e; rw [sumL_append, List.length_append]; simp only [sumL, List.length_cons, List.length_nil]; omega), r9, r10⟩⟩;intro l' hl'
      rcases List.mem_append.1 hl' with hl' | hl'
      ·exact h5 l' hl'
      ·simp only [List.mem_cons, List.not_mem_nil, or_false] at hl'; subst hl'; exact r5
  ·have hg17 : decide (((s1.i : Nat) : Int) < ((gs.length : Nat) : Int)) = false := by rw [decide_eq_false_iff_not]; omega
   refine qq ?_;refine qq ?_;refine qj fun K hK => ?_;refine qm ?_;refine qg ?_;refine qp (o := 5) ?_;refine ql hH at0 ?_;refine qg ?_;refine qm ?_;refine qm ?_ (hg := wi hg5);refine qg ?_ (hg := wi hg5);refine qp (o := 2) ?_ (hg := wi hg5);refine ql hH at0 ?_ (hg := wi hg5);refine qm ?_ (hg := wi hg5);refine qg ?_ (hg := wi hg5);refine qp (o := 0) ?_ (hg := wi hg5);refine ql hH at0 ?_ (hg := wi hg5);refine qn ?_ (hg := wi hg5);simp only [List.length_map];refine qg ?_ (hg := wi hg5);refine qt hg5 ?_;refine qm ?_;refine qs ?_ (hg := wn hg17);refine qs ?_ (hg := wn hg17);refine qs ?_ (hg := wn hg17);refine qu hg17 ?_;refine qm ?_;refine qs ?_;refine qs ?_;refine qs ?_;refine qs ?_;refine qs ?_;refine qs ?_;refine qs ?_;refine qs ?_;refine qs ?_;refine qs ?_;refine qg ?_;refine qe hK ?_;refine qC ?_;refine EvC.exit ?_;obtain ⟨_, hjo, hQ, l, rfl⟩ := hexit _ (.inr ⟨he1, by rw [← hn2, if_neg (fun h => hlt h.1)]⟩) hH;refine qq ?_;refine qj fun K hK => ?_;refine qm ?_;refine qv (hjo) ?_;refine qm ?_;refine qe hK ?_;refine EvC.ret ⟨rx, _, _, _, rfl, leaveD_rw (rfl), ?_⟩;exact ⟨s1, hQ, hH0.leaveRw1 hS2 (hH.erase 2)⟩
 ·have hg5 : (s1.e == 0) = false := by simpa using he1
  refine qq ?_;refine qq ?_;refine qj fun K hK => ?_;refine qm ?_;refine qg ?_;refine qp (o := 5) ?_;refine ql hH at0 ?_;refine qg ?_;refine qm ?_;refine qs ?_ (hg := wn hg5);refine qs ?_ (hg := wn hg5);refine qs ?_ (hg := wn hg5);refine qs ?_ (hg := wn hg5);refine qs ?_ (hg := wn hg5);refine qs ?_ (hg := wn hg5);refine qs ?_ (hg := wn hg5);refine qs ?_ (hg := wn hg5);refine qs ?_ (hg := wn hg5);refine qs ?_ (hg := wn hg5);refine qu hg5 ?_;refine qm ?_;refine qs ?_;refine qs ?_;refine qs ?_;refine qg ?_;refine qm ?_;refine qs ?_;refine qs ?_;refine qs ?_;refine qs ?_;refine qs ?_;refine qs ?_;refine qs ?_;refine qs ?_;refine qs ?_;refine qs ?_;refine qg ?_;refine qe hK ?_;refine qC ?_;refine EvC.exit ?_;obtain ⟨_, hjo, hQ, l, rfl⟩ := hexit _ (.inl (h8.resolve_right fun h => he1 h.1)) hH;refine qq ?_;refine qj fun K hK => ?_;refine qm ?_;refine qv (hjo) ?_;refine qm ?_;refine qe hK ?_;refine EvC.ret ⟨rx, _, _, _, rfl, leaveD_rw (rfl), ?_⟩;exact ⟨s1, hQ, hH0.leaveRw1 hS2 (hH.erase 2)⟩
theorem altB_ev {m : Nat} {gs : List (Nat × Nat)} {A : PF} (hA : ∀ m', m' + 1 = m → AltX A gs m') : AltX (altB A gs m) gs m := by
 intro N k S s0 H plD pls s hok he hi hg ho hH;have hgl := hok.gl;have hpl := hok.pl;refine Ev.mkE rfl fi38 rfl rfl rfl ?_;dsimp only [u3, u4, List.length, Nat.reduceSub, Nat.reduceAdd, w1, w2];have hH0 := hH;have hH := hH.enterRw;have hS2 : (enterSt .rw s0).bs = s0.bs := rfl;generalize enterSt .rw s0 = S2 at *
 obtain ⟨R, hR⟩ : ∃ R, altB A gs m s.i s.g = R := ⟨_, rfl⟩
 rw [hR];unfold altB at hR;refine qq ?_;refine qj fun K hK => ?_;refine qm ?_;refine qe hK ?_;refine qq ?_;refine qj fun K hK => ?_;refine qm ?_;obtain ⟨_, st, hev, s1, ⟨p1, p2, p3, p4, l, rfl, p5, p6, p7⟩, hH⟩ := catX_ev hA hok he hi hg ho hH;refine qv hev ?_;refine qh (s := 1) (vs := [_]) hH fun k6 st hk6 hH => ?_;dsimp only [u2, u1, u3, u4, setMany, u5, u6, D.cells, Nat.reduceAdd, prsC, gotC, intC, rangeC, partC] at hH;refine qm ?_;refine qe hK ?_
 have h80 : ErrX R pls s1 ∨ s1.e = 0 ∧ ∃ n, gs.length - s1.i < n ∧ altL A gs m n s1.i s1.g [l] = R := by
  rcases p7 with p7 | ⟨p7, p71⟩
  ·exact .inl (p7.map fun e w h => by rw [← hR, h])
  ·rw [p71] at hR;exact .inr ⟨p7, _, by omega, hR⟩
 have hH : Has N S2 st (.box k (.mem 0 false (prsC gs plD s1)) :: .lst plD 1 (pls.map intC) :: .lst (.win k6 0 0 1 1) 1 ([l].map partC) :: H) := Has_rot3 hH;refine qq ?_;refine EvC.block ?_;refine EvC.loop (fun mm fr st => ∃ (s1 : Prs) (pd : D) (parts : List (List Nod)), fr.clean = ⟨4, [.ptr k 0 0, ixF_Ti fr 1, ixF_Ti fr 2, pd], []⟩ ∧ Has N S2 st (.box k (.mem 0 false (prsC gs plD s1)) :: .lst plD 1 (pls.map intC) :: .lst pd 1 (parts.map partC) :: H) ∧ (s1.o = s.o) ∧ (s1.g ≤ 4) ∧ (s.i ≤ s1.i) ∧ (s1.i ≤ gs.length) ∧ (∀ l ∈ parts, ∀ n ∈ l, NdV n) ∧ (sumL parts + 3 * parts.length ≤ 4 * (s1.i - s.i) + 4) ∧ (1 ≤ parts.length) ∧ (ErrX R pls s1 ∨ s1.e = 0 ∧ ∃ n, gs.length - s1.i < n ∧ altL A gs m n s1.i s1.g parts = R) ∧ (gs.length - s1.i ≤ mm)) (gs.length) ?_ ?_
 ·exact ⟨s1, .win k6 0 0 1 1, [l], rfl, hH, p1, p2, p3, p4, (fun l' hl' => by simp only [List.mem_cons, List.not_mem_nil, or_false] at hl'; subst hl'; exact p5), by simp only [sumL, List.length_cons, List.length_nil]; omega, by simp, h80, by omega⟩
 rintro mm fr st ⟨s1, pd, parts, hfr, hH, h1, h2, h3, h4, h5, h6, h8, h9, hmm⟩;rw [hfr];clear hfr;generalize ixF_Ti fr = ee;clear fr
 have hexit : ∀ st : St, (ErrX R pls s1 ∨ s1.e = 0 ∧ R = .ok (joinS 4 parts, s1.g) s1.i) → Has N S2 st (.box k (.mem 0 false (prsC gs plD s1)) :: .lst plD 1 (pls.map intC) :: .lst pd 1 (parts.map partC) :: H) → ∃ d, Ev pv 73 [.int .i64 4, pd] st d st ∧ NodesXQ gs pls R s s1 d ∧ ∃ l, d = nlD l := by
  intro st hv hH;obtain ⟨hev, j1, j2, j3⟩ := joinedX_ev 4 (hH.rows at2) h5 (by omega) (by omega);refine ⟨_, hev, ⟨h1, h2, h3, h4, joinS 4 parts, rfl, j1, ?_, hv⟩, _, rfl⟩
  by_cases q1 : parts.length = 1
  ·have := j2 q1; omega
  ·omega
 by_cases he1 : s1.e = 0
 ·obtain ⟨n, hn1, hn2⟩ := (h9.resolve_left fun h => absurd he1 h.ne).2
  obtain ⟨n, rfl⟩ : ∃ m, n = m + 1 := ⟨n - 1, by omega⟩
  unfold altL at hn2;have hg5 : (s1.e == 0) = true := by simpa using he1
  obtain ⟨k1, k2, k3, k4, k5⟩ := skip_i (gs := gs) (s := s1) (r := 124);have k5 := k5 h4;refine qq ?_;refine qq ?_;refine qj fun K hK => ?_;refine qm ?_;refine qg ?_;refine qp (o := 5) ?_;refine ql hH at0 ?_;refine qg ?_;refine qm ?_;refine qm ?_ (hg := wi hg5);obtain ⟨_, st, hev, rfl, hH⟩ := skip_ev (s := s1) (by omega) 124 hH;refine qv hev ?_ (hg := wi hg5);refine qt hg5 ?_;refine qe hK ?_
  cases hb : isS gs s1.i 124 with
  | false =>
   rw [skip_no hb] at hH;refine qC ?_;refine EvC.exit ?_;obtain ⟨_, hjo, hQ, l, rfl⟩ := hexit _ (.inr ⟨he1, by rw [← hn2, if_neg (by rw [hb]; simp)]⟩) hH;refine qq ?_;refine qj fun K hK => ?_;refine qm ?_;refine qv (hjo) ?_;refine qm ?_;refine qe hK ?_;refine EvC.ret ⟨rx, _, _, _, rfl, leaveD_rw (rfl), ?_⟩;exact ⟨s1, hQ, hH0.leaveRw1 hS2 (hH.erase 2)⟩
  | true =>
   have k6 := skip_yes hb;rw [if_pos hb] at hn2;generalize skipS gs s1 124 = s2 at *;refine qB ?_;refine EvC.skip ?_;refine EvC.block ?_;refine qj fun K hK => ?_;refine qm ?_;refine qm ?_;obtain ⟨_, st, hev, s3, ⟨r1, r2, r3, r4, l, rfl, r5, r6, r7⟩, hH⟩ := catX_ev hA hok (s := s2) (by omega) k5 (by omega) (by omega) hH;refine qv hev ?_;refine qh (s := 1) (vs := [_]) hH fun k19 st hk19 hH => ?_;dsimp only [u2, u1, u3, u4, setMany, u5, u6, D.cells, Nat.reduceAdd, prsC, gotC, intC, rangeC, partC] at hH;refine EvO.happend (s := 1) hH rfl (ev rfl) (ev rfl) (by exact at3) (by exact hH.rows (by exact at0)) rfl rfl rfl rfl rfl rfl rfl ⟨(Nat.le_of_ble_eq_true rfl), (Nat.le_of_ble_eq_true rfl)⟩ (fun _ => (put_T rfl _)) (by simp only [List.length_cons, List.length_nil, List.length_map] <;> omega) (by exact .inr rfl) (fun x20 st hH => ?_);dsimp only [u2, u1, u3, u4, setMany, u5, u6, D.cells, Nat.reduceAdd, prsC, gotC, intC, rangeC, partC] at hH;refine qm ?_;refine qe hK ?_;have hH := hH.drop 1;rw [k6, show s2.g = s1.g by omega] at r7
   have r9 : ErrX R pls s3 ∨ s3.e = 0 ∧ ∃ n, gs.length - s3.i < n ∧ altL A gs m n s3.i s3.g (parts ++ [l]) = R := by
    rcases r7 with r7 | ⟨r7, r71⟩
    ·exact .inl (r7.map fun e w h => by rw [← hn2, h])
    ·rw [r71] at hn2;exact .inr ⟨r7, n, by omega, hn2⟩
   refine ⟨mm - 1, by omega, ⟨s3, x20, parts ++ [l], rfl, (by rw [List.map_append]; exact hH), by omega, r2, by omega, r4, ?_, by rw [sumL_append, List.length_append]; simp only [sumL, List.length_cons, List.length_nil]; omega, by rw [List.length_append]; omega, r9, by omega⟩⟩;intro l' hl'
   rcases List.mem_append.1 hl' with hl' | hl'
   ·exact h5 l' hl'
   ·simp only [List.mem_cons, List.not_mem_nil, or_false] at hl'; subst hl'; exact r5
 ·have hg5 : (s1.e == 0) = false := by simpa using he1
  refine qq ?_;refine qq ?_;refine qj fun K hK => ?_;refine qm ?_;refine qg ?_;refine qp (o := 5) ?_;refine ql hH at0 ?_;refine qg ?_;refine qm ?_;refine qs ?_ (hg := wn hg5);refine qs ?_ (hg := wn hg5);refine qu hg5 ?_;refine qe hK ?_;refine qC ?_;refine EvC.exit ?_;obtain ⟨_, hjo, hQ, l, rfl⟩ := hexit _ (.inl (h9.resolve_right fun h => he1 h.1)) hH;refine qq ?_;refine qj fun K hK => ?_;refine qm ?_;refine qv (hjo) ?_;refine qm ?_;refine qe hK ?_;refine EvC.ret ⟨rx, _, _, _, rfl, leaveD_rw (rfl), ?_⟩;exact ⟨s1, hQ, hH0.leaveRw1 hS2 (hH.erase 2)⟩
theorem altX_ev (gs : List (Nat × Nat)) (m : Nat) : AltX (altF gs m) gs m := by
 induction m with
 | zero => exact altB_ev (fun m' h => by omega)
 | succ m ih => exact altB_ev (fun m' h => by cases h; exact @ih)
def ixF_Tj (fr : Go.V.Fr) (k : Nat) : Go.V.D := Go.V.nth .junk fr.loc k
def plsF : List (Nat × Nat) → Nat → List Int
 | [], _ => []
 | q :: l, a => ((a : Nat) : Int) :: plsF l (a + q.2)
noncomputable def parseR (gs : List (Nat × Nat)) (R : PR (List Nod × Nat)) : List Nod × Int × Int :=
 match R with
 | .er e w => ([], e, (plsF gs 0).getD w 0)
 | .ok (l, _) j => if j < gs.length then ([], 4, (plsF gs 0).getD j 0) else (l, 0, 0)
noncomputable def parseX (b : List UInt8) : List Nod × Int × Int :=
 if 120 < b.length then ([], 2, 0) else parseR (allS b) (altF (allS b) 20 0 0)
def parseD (q : List Nod × Int × Int) : D := .tup [nlD q.1, .int .i64 q.2.1, .int .i64 q.2.2]
theorem parseX_ev {s0 : St} {b : List UInt8} (hbl : b.length ≤ 1048576) : Ev pv 11 [.str b] s0 (parseD (parseX b)) s0 ∧ (∀ n ∈ (parseX b).1, NdV n) ∧ (parseX b).1.length ≤ 500 := by
 suffices hg : ∃ d, Ev pv 11 [.str b] s0 d s0 ∧ d = parseD (parseX b) ∧ (∀ n ∈ (parseX b).1, NdV n) ∧ (parseX b).1.length ≤ 500 by
  obtain ⟨d, h1, rfl, h2⟩ := hg;exact ⟨h1, h2⟩
 obtain ⟨X, hX⟩ : ∃ X, parseX b = X := ⟨_, rfl⟩
 rw [hX];unfold parseX at hX;obtain ⟨hgl, hgs⟩ := allS_len _ b (Nat.le_refl _);have hev : ∀ (st : St) (x : D), Bytes st x b → Ev pv 28 [x] st (gotsD (allS b)) st := fun st x h => all_ev h hbl;generalize allS b = gs at *;refine Ev.mkR rfl fi11 rfl rfl rfl ?_;dsimp only [u3, u4, List.length, Nat.reduceSub, Nat.reduceAdd, w1, w2];obtain ⟨hSb, hF, hH⟩ := ri s0;generalize enterSt .ro s0 = S at *;have hgr : Arg s0.bs.length S 2 (gotsD gs) (gs.map gotC) := Arg.pure (fun st => gots_rows st gs);refine qq ?_;refine qj fun K hK => ?_;refine qm ?_;refine qm ?_;refine qm ?_;refine qe hK ?_;refine qq ?_;refine qq ?_;refine qj fun K hK => ?_;refine qm ?_;refine EvO.slen rfl rfl rfl (by dsimp only [Fr.put, u1, u2] <;> rfl) ?_;refine qg ?_;refine qe hK ?_
 by_cases hlong : 120 < b.length
 ·have hcc : decide (((b.length : Nat) : Int) > 120) = true := by rw [decide_eq_true_eq]; omega
  refine qD rfl (by rw [hcc]) ?_;refine qq ?_;refine qj fun K hK => ?_;refine qm ?_;refine qm ?_;refine qm ?_;refine qe hK ?_;refine EvC.ret ⟨rx, _, _, rfl, rl hSb hH (rfl), ?_⟩;rw [if_pos hlong] at hX;rw [← hX];exact ⟨rfl, fun n hn => (by cases hn), by simp⟩
 rw [if_neg hlong] at hX;have hcc : decide (((b.length : Nat) : Int) > 120) = false := by rw [decide_eq_false_iff_not]; omega
 refine qE rfl (by rw [hcc]) ?_;refine EvC.skip ?_;refine qq ?_;refine qj fun K hK => ?_;refine qm ?_;refine EvO.hbytes hH rfl rfl rfl rfl rfl (by omega) (fun _ => by dsimp only [Fr.put, u1, u2] <;> rfl) (fun k14 st hk14 hH => ?_);refine qv ((hev _ _ (hH.rows at0))) ?_;refine EvO.go (d := .agg [gotsD gs, .nul, .int .i64 0, .int .i64 0, .int .i64 0, .int .i64 0, .int .i64 0]) (st1 := _) rfl rfl rfl (by dsimp only [Fr.put, u1, u2] <;> rfl) ?_;refine qb hH fun k17 st hk17 hH => ?_;refine qm ?_;refine qe hK ?_;refine qq ?_;refine qj fun K hK => ?_;refine qm ?_;refine qe hK ?_;refine qq ?_;refine qq ?_;refine qj fun K hK => ?_;refine qm ?_;refine qg ?_;refine qp (o := 0) ?_;refine ql hH at0 ?_;refine qn ?_;simp only [List.length_map];refine qm ?_;refine qe hK ?_;have hH : Has s0.bs.length S st (.box k17 (.mem 0 false [gotsD gs, .nul, .int .i64 0, .int .i64 0, .int .i64 0, .int .i64 0, .int .i64 0]) :: .lst .nul 1 (([] : List Int).map intC) :: []) := ((hH.erase 1).nulE 1).front at1;refine EvC.block ?_;refine EvC.loop (fun mm fr st => ∃ (i a : Nat) (pd : D) (pls : List Int), fr.clean = ⟨24, [ixF_Tj fr 0, ixF_Tj fr 1, ixF_Tj fr 2, ixF_Tj fr 3, ixF_Tj fr 4, .ptr k17 0 0, .int .i64 (a : Nat), ixF_Tj fr 7, ixF_Tj fr 8, ixF_Tj fr 9, ixF_Tj fr 10, ixF_Tj fr 11, ixF_Tj fr 12, ixF_Tj fr 13, ixF_Tj fr 14, ixF_Tj fr 15, ixF_Tj fr 16, ixF_Tj fr 17, ixF_Tj fr 18, ixF_Tj fr 19, ixF_Tj fr 20, gotsD gs, .int .i64 (gs.length : Nat), .int .i64 (i : Nat)], []⟩ ∧ Has s0.bs.length S st [.box k17 (.mem 0 false [gotsD gs, pd, .int .i64 0, .int .i64 0, .int .i64 0, .int .i64 0, .int .i64 0]), .lst pd 1 (pls.map intC)] ∧ (i + mm = gs.length) ∧ (pls.length = i) ∧ (pls ++ plsF (gs.drop i) a = plsF gs 0) ∧ (a ≤ 120 * i)) (gs.length) ?_ ?_
 ·exact ⟨0, 0, .nul, [], rfl, hH, by omega, rfl, rfl, by omega⟩
 rintro mm fr st ⟨i, a, pd, pls, hfr, hH, hi, hpl, hps, ha⟩;rw [hfr];clear hfr;generalize ixF_Tj fr = ee;clear fr;refine qq ?_;refine qj fun K hK => ?_;refine qg ?_;refine qe hK ?_
 by_cases hlt : i < gs.length
 ·obtain ⟨g, hg⟩ : ∃ g, gs[i]? = some g := ⟨gs[i]'hlt, List.getElem?_eq_getElem _⟩
  have hr1 : (gs.map gotC)[i]? = some (gotC g) := by rw [List.getElem?_map, hg]; rfl
  have hg2 := hgs g (List.mem_of_getElem? hg)
  have hdr : gs.drop i = g :: gs.drop (i + 1) := by
   have := List.drop_eq_getElem_cons (l := gs) (i := i) hlt;rw [this]; congr 1;rw [List.getElem?_eq_getElem hlt] at hg;exact Option.some.inj hg
  rw [hdr] at hps
  have hps : (pls ++ [((a : Nat) : Int)]) ++ plsF (gs.drop (i + 1)) (a + g.2) = plsF gs 0 := by
   rw [List.append_assoc]; exact hps
  have hc2 : decide (((i : Nat) : Int) < ((gs.length : Nat) : Int)) = true := by rw [decide_eq_true_eq]; omega
  refine qq ?_;refine qD rfl (by rw [hc2]) ?_;refine EvC.skip ?_;refine qq ?_;refine EvC.block ?_;refine qq ?_;refine qj fun K hK => ?_;refine qr fun p25 hp25 => ?_;refine EvO.rloadS rfl (ev rfl) (by assumption) rfl (put_T rfl _) ?_;refine qa hH fun k8 st hk8 hH => ?_;refine qS hH at0 fun st hH => ?_;dsimp only [u2, u1, u3, u4, setMany, u5, u6, D.cells, Nat.reduceAdd, prsC, gotC, intC] at hH;refine qe hK ?_;refine qq ?_;refine qj fun K hK => ?_;refine qm ?_;refine qm ?_;refine qg ?_;refine qp (o := 1) ?_;refine ql hH at1 ?_;refine qm ?_;refine qh (s := 1) (vs := [_]) hH fun k33 st hk33 hH => ?_;refine EvO.happend (s := 1) hH rfl (ev rfl) (ev rfl) (by exact at3) (by exact hH.rows (by exact at0)) rfl rfl rfl rfl rfl rfl rfl ⟨(Nat.le_of_ble_eq_true rfl), (Nat.le_of_ble_eq_true rfl)⟩ (fun _ => (put_T rfl _)) (by simp only [List.length_cons, List.length_nil, List.length_map] <;> omega) (by exact .inl hF) (fun x34 st hH => ?_);dsimp only [u2, u1, u3, u4, setMany, u5, u6, D.cells, Nat.reduceAdd, prsC, gotC, intC] at hH;refine qg ?_;refine qp (o := 1) ?_;refine qT hH at2 (fun st hH => ?_) (hcs := hH.ocells at3);dsimp only [u2, u1, u3, u4, setMany, u5, u6, D.cells, Nat.reduceAdd, prsC, gotC, intC] at hH;refine qe hK ?_;refine qj fun K hK => ?_;refine qm ?_;refine qp (o := 1) ?_;refine ql hH at1 ?_;refine EvO.addN rfl (ev rfl) (ev rfl) (by omega) (put_T rfl _) ?_;refine qm ?_;refine qe hK ?_;refine qj fun K hK => ?_;refine qA ?_;refine qm ?_;refine qe hK ?_;exact ⟨mm - 1, by omega, ⟨i + 1, a + g.2, x34, pls ++ [((a : Nat) : Int)], rfl, (by rw [List.map_append]; exact hH.drop 2), by omega, by rw [List.length_append, hpl]; rfl, hps, by omega⟩⟩
 ·have hc2 : decide (((i : Nat) : Int) < ((gs.length : Nat) : Int)) = false := by rw [decide_eq_false_iff_not]; omega
  refine qq ?_;refine qE rfl (by rw [hc2]) ?_;refine EvC.exit ?_
  have hok : PrsOk gs pls := ⟨by omega, by omega⟩
  have hps : pls = plsF gs 0 := by
   rw [List.drop_eq_nil_of_le (by omega)] at hps;rw [← hps]; simp [plsF]
  have hH : Has s0.bs.length S st (.box k17 (.mem 0 false (prsC gs pd ⟨0, 0, 0, 0, 0⟩)) :: .lst pd 1 (pls.map intC) :: []) := hH;refine qq ?_;refine qj fun K hK => ?_;refine qm ?_;obtain ⟨_, st, hev, s1, ⟨p1, p2, p3, p4, l, rfl, p5, p6, p7⟩, hH⟩ := altX_ev gs 20 (s := ⟨0, 0, 0, 0, 0⟩) hok rfl (by simp) (by simp) rfl hH;refine qv hev ?_;refine qm ?_;refine qe hK ?_;have p6 : l.length ≤ 4 * (s1.i - 0) + 1 := p6;have p7 : ErrX (altF gs 20 0 0) pls s1 ∨ s1.e = 0 ∧ altF gs 20 0 0 = .ok (l, s1.g) s1.i := p7;generalize altF gs 20 0 0 = R at *;unfold parseR at hX;rw [← hps] at hX;refine qq ?_;refine qq ?_;refine EvC.merge3 (fun fr st => ∃ (s2 : Prs) (tmp : List (Nat × D)), fr = ⟨24, [ixF_Tj fr 0, ixF_Tj fr 1, ixF_Tj fr 2, ixF_Tj fr 3, ixF_Tj fr 4, .ptr k17 0 0, ixF_Tj fr 6, ixF_Tj fr 7, ixF_Tj fr 8, nlD l, ixF_Tj fr 10, ixF_Tj fr 11, ixF_Tj fr 12, ixF_Tj fr 13, ixF_Tj fr 14, ixF_Tj fr 15, ixF_Tj fr 16, ixF_Tj fr 17, ixF_Tj fr 18, ixF_Tj fr 19, ixF_Tj fr 20, ixF_Tj fr 21, ixF_Tj fr 22, ixF_Tj fr 23], tmp⟩ ∧ Has s0.bs.length S st (.box k17 (.mem 0 false (prsC gs pd s2)) :: .lst pd 1 (pls.map intC) :: []) ∧ (s2.e ≠ 0 ∧ X = ([], s2.e, s2.w) ∨ s2.e = 0 ∧ X = (l, 0, 0))) ?_ ?_
  ·by_cases he1 : s1.e = 0
   ·have hg5 : (s1.e == 0) = true := by simpa using he1
    have hR : R = .ok (l, s1.g) s1.i := by
     rcases p7 with p7 | p7
     ·exact absurd he1 p7.ne
     ·exact p7.2
    rw [hR] at hX;simp only at hX;refine qj fun K hK => ?_;refine qm ?_;refine qg ?_;refine qp (o := 5) ?_;refine ql hH at0 ?_;refine qg ?_;refine qm ?_;refine qm ?_ (hg := wi hg5);refine qg ?_ (hg := wi hg5);refine qp (o := 2) ?_ (hg := wi hg5);refine ql hH at0 ?_ (hg := wi hg5);refine qm ?_ (hg := wi hg5);refine qg ?_ (hg := wi hg5);refine qp (o := 0) ?_ (hg := wi hg5);refine ql hH at0 ?_ (hg := wi hg5);refine qn ?_ (hg := wi hg5);simp only [List.length_map];refine qg ?_ (hg := wi hg5);refine qt hg5 ?_;refine qe hK ?_;refine EvC.cond (by rfl) (fun hin => ?_) (fun hin => ?_) <;> try simp only [decide_eq_true_eq, decide_eq_false_iff_not] at hin
    ·refine qj fun K hK => ?_;refine qm ?_;refine qm ?_;refine qg ?_;refine qp (o := 2) ?_;refine ql hH at0 ?_;obtain ⟨_, st, hev, rfl, hH⟩ := wrong_ev (s := s1) s1.i 4 (by omega) hH;refine qv hev ?_;refine qe hK ?_;rw [if_pos (by omega)] at hX;have hw : (wrongS pls s1 s1.i 4).e = 4 ∧ (wrongS pls s1 s1.i 4).w = pls.getD s1.i 0 := by unfold wrongS; rw [if_pos he1]; exact ⟨rfl, rfl⟩
     exact ⟨_, _, rfl, hH, .inl ⟨by rw [hw.1]; decide, by rw [hw.1, hw.2]; exact hX.symm⟩⟩
    ·rw [if_neg (by omega)] at hX;refine EvC.skip ?_;exact ⟨s1, _, rfl, hH, .inr ⟨he1, hX.symm⟩⟩
   ·have hg5 : (s1.e == 0) = false := by simpa using he1
    refine qj fun K hK => ?_;refine qm ?_;refine qg ?_;refine qp (o := 5) ?_;refine ql hH at0 ?_;refine qg ?_;refine qm ?_;refine qs ?_ (hg := wn hg5);refine qs ?_ (hg := wn hg5);refine qs ?_ (hg := wn hg5);refine qs ?_ (hg := wn hg5);refine qs ?_ (hg := wn hg5);refine qs ?_ (hg := wn hg5);refine qs ?_ (hg := wn hg5);refine qs ?_ (hg := wn hg5);refine qs ?_ (hg := wn hg5);refine qs ?_ (hg := wn hg5);refine qu hg5 ?_;refine qe hK ?_
    have hE : X = ([], s1.e, s1.w) := by
     obtain ⟨e, w, h0, h1, h2, h3⟩ := p7.resolve_right fun h => he1 h.1;rw [h0] at hX;rw [← hX, h2, h3]
    refine qC ?_;refine EvC.skip ?_;exact ⟨s1, _, rfl, hH, .inl ⟨he1, hE⟩⟩
  ·rintro fr st ⟨s2, tmp, hfr, hH, ht⟩;rw [hfr];clear hfr;generalize ixF_Tj fr = ee;clear fr;refine qq ?_;refine qq ?_;refine qj fun K hK => ?_;refine qm ?_;refine qg ?_;refine qp (o := 5) ?_;refine ql hH at0 ?_;refine qg ?_;refine qe hK ?_;refine EvC.cond (by rfl) (fun hne => ?_) (fun hne => ?_) <;> try simp only [bne_iff_ne, bne_eq_false_iff_eq, ne_eq] at hne
   ·refine qq ?_;refine qj fun K hK => ?_;refine qm ?_;refine qg ?_;refine qp (o := 5) ?_;refine ql hH at0 ?_;refine qm ?_;refine qg ?_;refine qp (o := 6) ?_;refine ql hH at0 ?_;refine qm ?_;refine qm ?_;refine qm ?_;refine qe hK ?_;refine EvC.ret ⟨rx, _, _, rfl, rl hSb hH (rfl), ?_⟩
    rcases ht with ⟨h1, h2⟩ | ⟨h1, h2⟩
    ·rw [h2];exact ⟨rfl, fun n hn => (by cases hn), by simp⟩
    ·exact absurd h1 hne
   ·refine EvC.skip ?_;refine qq ?_;refine qj fun K hK => ?_;refine qm ?_;refine qm ?_;refine qm ?_;refine qm ?_;refine qe hK ?_;refine EvC.ret ⟨rx, _, _, rfl, rl hSb hH (rfl), ?_⟩
    rcases ht with ⟨h1, h2⟩ | ⟨h1, h2⟩
    ·exact absurd h1 (by omega)
    ·rw [h2];exact ⟨rfl, p5, by show l.length ≤ 500; omega⟩
def isSeen (seen : List Bool) (v : Int) : Prop := 0 ≤ v ∧ seen[v.toNat]? = some true
structure DfsInv (code : List PIns) (start : Int) (seen : List Bool) (stk : List Int) : Prop where
 a : ∀ u i, seen[u]? = some true → code[u]? = some i → ∀ w ∈ nextS u i, isSeen seen w ∨ w ∈ stk
 b : ∀ v ∈ stk, v = start ∨ ∃ u i, seen[u]? = some true ∧ code[u]? = some i ∧ v ∈ nextS u i
 c : ∀ v, isSeen seen v → v = start ∨ ∃ u i, seen[u]? = some true ∧ code[u]? = some i ∧ v ∈ nextS u i ∧ v ≠ (u : Int)
 d : isSeen seen start ∨ start ∈ stk
theorem set_seen {seen : List Bool} {k : Nat} (hk : k < seen.length) {v : Int} : isSeen (seen.set k true) v ↔ v = (k : Int) ∨ isSeen seen v := by
 unfold isSeen;constructor
 ·rintro ⟨h0, h⟩
  by_cases hv : v.toNat = k
  ·left; omega
  ·rw [List.getElem?_set_ne (fun e => hv e.symm)] at h; exact .inr ⟨h0, h⟩
 ·rintro (rfl | ⟨h0, h⟩)
  ·exact ⟨by omega, by rw [Int.toNat_natCast, List.getElem?_set_self hk]⟩
  ·refine ⟨h0, ?_⟩
   by_cases hv : v.toNat = k
   ·rw [hv, List.getElem?_set_self hk]
   ·rw [List.getElem?_set_ne (fun e => hv e.symm)]; exact h
theorem seen_nat {seen : List Bool} {u : Nat} : seen[u]? = some true ↔ isSeen seen (u : Int) := by
 unfold isSeen; rw [Int.toNat_natCast]; exact ⟨fun h => ⟨by omega, h⟩, fun h => h.2⟩
theorem dfs_ok {code : List PIns} {start : Int} (hcl : closedS code) : ∀ (f : Nat) (seen : List Bool) (stk : List Int), seen.length = code.length → (∀ v ∈ stk, 0 ≤ v ∧ v < (code.length : Int)) → 3 * seen.count false + stk.length ≤ f → DfsInv code start seen stk → DfsInv code start (dfs code f seen stk) []
 | 0, seen, stk, _, _, hm, hi => by
  have : stk = [] := by cases stk with | nil => rfl | cons _ _ => simp at hm
  subst this; exact hi
 | f + 1, seen, [], _, _, _, hi => hi
 | f + 1, seen, v :: stk, hl, hs, hm, hi => by
  have hv := hs v (List.mem_cons_self ..);have hs' : ∀ w ∈ stk, 0 ≤ w ∧ w < (code.length : Int) := fun w hw => hs w (List.mem_cons_of_mem _ hw);obtain ⟨k, rfl⟩ := Int.eq_ofNat_of_zero_le hv.1;have hk : k < code.length := by omega
  obtain ⟨i, hci⟩ : ∃ i, code[k]? = some i := ⟨code[k]'hk, List.getElem?_eq_getElem _⟩
  obtain ⟨b, hb⟩ : ∃ b, seen[k]? = some b := ⟨seen[k]'(by omega), List.getElem?_eq_getElem _⟩
  simp only [List.length_cons] at hm;have hp : ∀ w, w ∈ ((k : Int) :: stk) → w = (k : Int) ∨ w ∈ stk := fun w hw => List.mem_cons.1 hw;unfold dfs;simp only [Int.toNat_natCast, hb, hci]
  cases b with
  | true =>
   have hks : isSeen seen (k : Int) := seen_nat.1 hb;refine dfs_ok hcl f seen stk hl hs' (by omega) ⟨fun u j hu hj w hw => ?_, fun w hw => hi.b w (List.mem_cons_of_mem _ hw), hi.c, ?_⟩
   ·rcases hi.a u j hu hj w hw with h | h
    ·exact .inl h
    ·rcases hp w h with rfl | h
     ·exact .inl hks
     ·exact .inr h
   ·rcases hi.d with h | h
    ·exact .inl h
    ·rcases hp start h with h | h
     ·exact .inl (h ▸ hks)
     ·exact .inr h
  | false =>
   have hcnt := count_set hb;have hkl : k < seen.length := by omega
   have hnl := next_len k i;refine dfs_ok hcl f _ _ (by rw [List.length_set]; exact hl) (fun w hw => ?_) (by simp only [List.length_append, List.length_reverse]; omega) ⟨fun u j hu hj w hw => ?_, fun w hw => ?_, fun w hw => ?_, ?_⟩
   ·rcases List.mem_append.1 hw with hw | hw
    ·exact hcl k i hci w (List.mem_reverse.1 hw)
    ·exact hs' w hw
   ·rcases (set_seen hkl).1 (seen_nat.1 hu) with h | h
    ·have : u = k := by omega
     subst this;rw [hci] at hj; cases hj;exact .inr (List.mem_append.2 (.inl (List.mem_reverse.2 hw)))
    ·rcases hi.a u j (seen_nat.2 h) hj w hw with h | h
     ·exact .inl ((set_seen hkl).2 (.inr h))
     ·rcases hp w h with h | h
      ·exact .inl ((set_seen hkl).2 (.inl h))
      ·exact .inr (List.mem_append.2 (.inr h))
   ·rcases List.mem_append.1 hw with hw | hw
    ·exact .inr ⟨k, i, seen_nat.2 ((set_seen hkl).2 (.inl rfl)), hci, List.mem_reverse.1 hw⟩
    ·rcases hi.b w (List.mem_cons_of_mem _ hw) with h | ⟨u, j, h1, h2, h3⟩
     ·exact .inl h
     ·exact .inr ⟨u, j, seen_nat.2 ((set_seen hkl).2 (.inr (seen_nat.1 h1))), h2, h3⟩
   ·rcases (set_seen hkl).1 hw with rfl | h
    ·rcases hi.b (k : Int) (List.mem_cons_self ..) with h | ⟨u, j, h1, h2, h3⟩
     ·exact .inl h
     ·refine .inr ⟨u, j, seen_nat.2 ((set_seen hkl).2 (.inr (seen_nat.1 h1))), h2, h3, fun e => ?_⟩;have : k = u := by omega
      subst this;rw [hb] at h1; cases h1
    ·rcases hi.c w h with h | ⟨u, j, h1, h2, h3, h4⟩
     ·exact .inl h
     ·exact .inr ⟨u, j, seen_nat.2 ((set_seen hkl).2 (.inr (seen_nat.1 h1))), h2, h3, h4⟩
   ·rcases hi.d with h | h
    ·exact .inl ((set_seen hkl).2 (.inr h))
    ·rcases hp start h with h | h
     ·exact .inl ((set_seen hkl).2 (.inl h))
     ·exact .inr (List.mem_append.2 (.inr h))
theorem reach_ok {code : List PIns} {start : Int} (hcl : closedS code) (hst : 0 ≤ start ∧ start < (code.length : Int)) : DfsInv code start (reachS code start) [] := by
 have hno : ∀ v, ¬ isSeen (List.replicate code.length false) v := by
  rintro v ⟨h0, h⟩;rw [List.getElem?_replicate] at h
  split at h <;> cases h
 refine dfs_ok hcl _ _ _ (by simp) (fun v hv => ?_) (by simp) ⟨fun u i hu => absurd (seen_nat.1 hu) (hno _), fun v hv => ?_, fun v hv => absurd hv (hno v), .inr (by simp)⟩
 ·simp only [List.mem_cons, List.not_mem_nil, or_false] at hv; subst hv; exact hst
 ·simp only [List.mem_cons, List.not_mem_nil, or_false] at hv; exact .inl hv
theorem nums_mem : ∀ {L : List Bool} {s : Nat} {v : Int}, v ∈ numsS s L ↔ ∃ k : Nat, L[k]? = some true ∧ v = ((s + k : Nat) : Int)
 | [], s, v => ⟨fun h => (by cases h), fun ⟨k, h, _⟩ => by simp at h⟩
 | b :: l, s, v => by
  simp only [numsS, List.mem_append];constructor
  ·rintro (h | h)
   ·split at h
    ·rename_i hb;simp only [List.mem_cons, List.not_mem_nil, or_false] at h;exact ⟨0, by simp [hb], by rw [h]; simp⟩
    ·cases h
   ·obtain ⟨k, h1, h2⟩ := nums_mem.1 h;exact ⟨k + 1, by simpa using h1, by rw [h2]; congr 1; omega⟩
  ·rintro ⟨k, h1, h2⟩
   cases k with
   | zero => simp at h1; subst h1; left; simp [h2]
   | succ k => exact .inr (nums_mem.2 ⟨k, by simpa using h1, by rw [h2]; congr 1; omega⟩)
theorem nums_rise : ∀ (L : List Bool) (s : Nat), (numsS s L).Pairwise (· < ·)
 | [], s => .nil
 | b :: l, s => by
  simp only [numsS];have ih := nums_rise l (s + 1)
  split
  ·rw [List.singleton_append, List.pairwise_cons];refine ⟨fun v hv => ?_, ih⟩;obtain ⟨k, _, rfl⟩ := nums_mem.1 hv;omega
  ·exact ih
def GoodI (lo hi : Nat) (i : PIns) : Prop :=
  (i.op = 1 ∧ i.x = 0 ∧ i.y = 0 ∧ rightS i.rs = true) ∨ (i.op = 2 ∧ i.rs = [] ∧ ((lo : Int) ≤ i.x ∧ i.x ≤ hi) ∧ (lo : Int) ≤ i.y ∧ i.y ≤ hi) ∨ (i.op = 3 ∧ i.rs = [] ∧ i.y = 0 ∧ (lo : Int) ≤ i.x ∧ i.x ≤ hi) ∨ (i.op = 4 ∧ i.rs = [] ∧ i.y = 0 ∧ 0 ≤ i.x ∧ i.x < 10) ∨ ((i.op = 5 ∨ i.op = 6) ∧ i.rs = [] ∧ i.y = 0 ∧ i.x = 0)
theorem GoodI.mono {lo hi lo' hi' : Nat} {i : PIns} (h : GoodI lo hi i) (h1 : lo' ≤ lo) (h2 : hi ≤ hi') : GoodI lo' hi' i := by
  rcases h with h | ⟨a, b, c, d⟩ | ⟨a, b, c, d⟩ | h | h
  · exact .inl h
  · exact .inr (.inl ⟨a, b, by omega, by omega⟩)
  · exact .inr (.inr (.inl ⟨a, b, c, by omega⟩))
  · exact .inr (.inr (.inr (.inl h)))
  · exact .inr (.inr (.inr (.inr h)))
theorem GoodI.sp {lo hi s o : Nat} {lz : Bool} (h1 : lo ≤ s + 1 ∧ s + 1 ≤ hi) (h2 : lo ≤ o ∧ o ≤ hi) : GoodI lo hi (spI s o lz) := by
  refine .inr (.inl ?_)
  cases lz
  · refine ⟨rfl, rfl, ?_⟩
    show ((lo : Int) ≤ ((s + 1 : Nat) : Int) ∧ ((s + 1 : Nat) : Int) ≤ hi) ∧ (lo : Int) ≤ (o : Int) ∧ (o : Int) ≤ hi
    omega
  · refine ⟨rfl, rfl, ?_⟩
    show ((lo : Int) ≤ (o : Int) ∧ (o : Int) ≤ hi) ∧ (lo : Int) ≤ ((s + 1 : Nat) : Int) ∧ ((s + 1 : Nat) : Int) ≤ hi
    omega
theorem GoodI.jp {lo hi e : Nat} (h1 : lo ≤ e ∧ e ≤ hi) : GoodI lo hi (jpI e) := by
  refine .inr (.inr (.inl ⟨rfl, rfl, rfl, ?_⟩))
  show (lo : Int) ≤ (e : Int) ∧ (e : Int) ≤ hi
  omega
theorem GoodI.save {lo hi : Nat} {x : Int} (h : 0 ≤ x ∧ x < 10) : GoodI lo hi (mkI 4 x 0 []) := .inr (.inr (.inr (.inl ⟨rfl, rfl, rfl, h⟩)))
theorem repC_good {c : Nat → List PIns} {z : Nat} (hc : ∀ b, ∀ i ∈ c b, GoodI b (b + z) i) : ∀ k b, ∀ i ∈ repC c z k b, GoodI b (b + k * z) i
  | 0, b, i, hi => by cases hi
  | k + 1, b, i, hi => by
    simp only [repC] at hi
    rw [Nat.succ_mul]
    rcases List.mem_append.1 hi with hi | hi
    · exact (hc b i hi).mono (Nat.le_refl _) (by omega)
    · exact (repC_good hc k _ i hi).mono (by omega) (by omega)
theorem optC_good {sp : Nat → PIns} {c : Nat → List PIns} {z lo hi : Nat} (hs : ∀ s, lo ≤ s → s + 1 ≤ hi → GoodI lo hi (sp s)) (hc : ∀ b, ∀ i ∈ c b, GoodI b (b + z) i) : ∀ k b, lo ≤ b → b + k * (z + 1) ≤ hi → ∀ i ∈ optC sp c z k b, GoodI lo hi i
  | 0, b, _, _, i, hi' => by cases hi'
  | k + 1, b, h1, h2, i, hi' => by
    simp only [optC] at hi'
    rw [Nat.succ_mul] at h2
    rcases List.mem_cons.1 hi' with rfl | hi'
    · exact hs b h1 (by omega)
    · rcases List.mem_append.1 hi' with hi' | hi'
      · exact (hc _ i hi').mono (by omega) (by omega)
      · exact optC_good hs hc k _ (by omega) (by omega) i hi'
def rsR (l : List Nod) : Prop := ∀ n ∈ l, n.op = 2 → rightS n.rs = true
mutual
theorem codeT_good : ∀ (t : Tr) (b : Nat), t.ok → rsR t.flat → ∀ i ∈ codeT t b, GoodI b (b + t.sz) i
  | .mk n ks, b, hok, hrs, i, hi => by
    simp only [Tr.ok] at hok
    simp only [Tr.flat] at hrs
    have hc := fun b => catT_good ks b hok.2 (fun n hn => hrs n (List.mem_cons_of_mem _ hn))
    obtain ⟨_, hq⟩ := hok.1
    simp only [codeT] at hi
    simp only [Tr.sz]
    by_cases q2 : n.op = 2
    · rw [if_pos q2] at hi
      simp only [List.mem_cons, List.not_mem_nil, or_false] at hi; subst hi; exact .inl ⟨rfl, rfl, rfl, hrs n (List.mem_cons_self ..) q2⟩
    rw [if_neg q2] at hi
    by_cases q7 : n.op = 7
    · rw [if_pos q7] at hi
      simp only [List.mem_cons, List.not_mem_nil, or_false] at hi; subst hi; exact .inr (.inr (.inr (.inr ⟨.inl rfl, rfl, rfl, rfl⟩)))
    rw [if_neg q7] at hi
    by_cases q8 : n.op = 8
    · rw [if_pos q8] at hi
      simp only [List.mem_cons, List.not_mem_nil, or_false] at hi; subst hi; exact .inr (.inr (.inr (.inr ⟨.inr rfl, rfl, rfl, rfl⟩)))
    rw [if_neg q8] at hi
    have hz : ∀ s k, nodSz n s k = if n.op = 4 then s + 2 * (k - 1) else if n.op = 6 then s + 2 else if n.op = 5 then (if n.mx = -1 then n.mn.toNat * s + s + 2 else n.mn.toNat * s + (n.mx.toNat - n.mn.toNat) * (s + 1)) else s := by
      intro s k; unfold nodSz; rw [if_neg (by omega)]
    by_cases q3 : n.op = 3
    · rw [if_pos q3] at hi
      rw [hz, if_neg (by omega), if_neg (by omega), if_neg (by omega)]
      exact hc b i hi
    rw [if_neg q3] at hi
    by_cases q4 : n.op = 4
    · rw [if_pos q4] at hi
      have hz4 : nodSz n ks.sz ks.len = ks.sz + 2 * (ks.len - 1) := by rw [hz, if_pos q4]
      rw [hz4] at hi ⊢
      exact altT_good ks b (b + (ks.sz + 2 * (ks.len - 1))) hok.2 (fun n hn => hrs n (List.mem_cons_of_mem _ hn)) (Nat.le_refl _) i hi
    rw [if_neg q4] at hi
    by_cases q5 : n.op = 5
    · rw [if_pos q5] at hi
      rw [hz, if_neg q4, if_neg (by omega), if_pos q5]
      unfold rptC at hi
      by_cases qx : n.mx = -1
      · rw [if_pos qx] at hi ⊢
        rcases List.mem_append.1 hi with hi | hi
        · exact (repC_good hc _ _ i hi).mono (Nat.le_refl _) (by omega)
        · rcases List.mem_cons.1 hi with rfl | hi
          · exact GoodI.sp (by omega) (by omega)
          · rcases List.mem_append.1 hi with hi | hi
            · exact (hc _ i hi).mono (by omega) (by omega)
            · simp only [List.mem_cons, List.not_mem_nil, or_false] at hi; subst hi; exact GoodI.jp (by omega)
      · rw [if_neg qx] at hi ⊢
        rcases List.mem_append.1 hi with hi | hi
        · exact (repC_good hc _ _ i hi).mono (Nat.le_refl _) (by omega)
        · exact optC_good (fun s h1 h2 => GoodI.sp (by omega) (by omega)) hc _ _ (by omega) (by omega) i hi
    rw [if_neg q5] at hi
    by_cases q6 : n.op = 6
    · rw [if_pos q6] at hi
      rw [hz, if_neg q4, if_pos q6]
      rcases List.mem_cons.1 hi with rfl | hi
      · exact GoodI.save (by omega)
      · rcases List.mem_append.1 hi with hi | hi
        · exact (hc _ i hi).mono (by omega) (by omega)
        · simp only [List.mem_cons, List.not_mem_nil, or_false] at hi; subst hi; exact GoodI.save (by omega)
    · rw [if_neg q6] at hi; cases hi
theorem catT_good : ∀ (ts : Trs) (b : Nat), ts.ok → rsR ts.flat → ∀ i ∈ catT ts b, GoodI b (b + ts.sz) i
  | .nil, b, _, _, i, hi => by simp [catT] at hi
  | .cons t ts, b, hok, hrs, i, hi => by
    simp only [Trs.ok] at hok
    simp only [Trs.flat] at hrs
    simp only [catT] at hi
    simp only [Trs.sz]
    rcases List.mem_append.1 hi with hi | hi
    · exact (codeT_good t b hok.1 (fun n hn => hrs n (List.mem_append_left _ hn)) i hi).mono (Nat.le_refl _) (by omega)
    · exact (catT_good ts _ hok.2 (fun n hn => hrs n (List.mem_append_right _ hn)) i hi).mono (by omega) (by omega)
theorem altT_good : ∀ (ts : Trs) (b e : Nat), ts.ok → rsR ts.flat → b + (ts.sz + 2 * (ts.len - 1)) ≤ e → ∀ i ∈ altT (jpI e) ts b, GoodI b e i
  | .nil, b, e, _, _, _, i, hi => by simp [altT] at hi
  | .cons t ts, b, e, hok, hrs, he, i, hi => by
    simp only [Trs.ok] at hok
    simp only [Trs.flat] at hrs
    simp only [altT] at hi
    simp only [Trs.sz, Trs.len] at he
    have h1 : rsR t.flat := fun n hn => hrs n (List.mem_append_left _ hn)
    have h2 : rsR ts.flat := fun n hn => hrs n (List.mem_append_right _ hn)
    by_cases q : ts.len = 0
    · rw [if_pos q] at hi
      exact (codeT_good t b hok.1 h1 i hi).mono (Nat.le_refl _) (by omega)
    · rw [if_neg q] at hi
      rcases List.mem_cons.1 hi with rfl | hi
      · exact GoodI.sp (by omega) (by omega)
      · rcases List.mem_append.1 hi with hi | hi
        · exact (codeT_good t _ hok.1 h1 i hi).mono (by omega) (by omega)
        · rcases List.mem_cons.1 hi with rfl | hi
          · exact GoodI.jp (by omega)
          · exact (altT_good ts _ e hok.2 h2 (by omega) i hi).mono (by omega) (by omega)
end
inductive Path (C : List PIns) : Nat → Nat → Prop where
  | refl (u : Nat) : Path C u u
  | step {u v w : Nat} {i : PIns} (h : C[u]? = some i) (hn : (v : Int) ∈ nextS u i) (p : Path C v w) : Path C u w
theorem Path.trans {C : List PIns} {u v w : Nat} (h : Path C u v) (g : Path C v w) : Path C u w := by
  induction h with
  | refl => exact g
  | step h hn _ ih => exact .step h hn (ih g)
theorem Path.fall {C : List PIns} {u : Nat} {i : PIns} (h : C[u]? = some i) (ho : i.op ≠ 2 ∧ i.op ≠ 3 ∧ i.op ≠ 7) : Path C u (u + 1) :=
  .step h (by unfold nextS; rw [if_neg ho.1, if_neg ho.2.1, if_neg ho.2.2]; exact List.mem_cons_self ..) (.refl _)
theorem Path.jp {C : List PIns} {u e : Nat} (h : C[u]? = some (jpI e)) : Path C u e :=
  .step h (by show (e : Int) ∈ nextS u (mkI 3 (e : Nat) 0 []); unfold nextS; rw [if_neg (show ¬ (mkI 3 (e : Nat) 0 []).op = 2 by show ¬ (3 : Int) = 2; decide), if_pos (show (mkI 3 (e : Nat) 0 []).op = 3 from rfl)]; exact List.mem_cons_self ..) (.refl _)
theorem Path.sp {C : List PIns} {u s o : Nat} {lz : Bool} (h : C[u]? = some (spI s o lz)) : Path C u (s + 1) ∧ Path C u o := by
  have hn : nextS u (spI s o lz) = [(spI s o lz).x, (spI s o lz).y] := by
    unfold nextS
    rw [if_pos (by cases lz <;> rfl)]
  cases lz
  · exact ⟨.step h (by rw [hn]; exact List.mem_cons_self ..) (.refl _), .step h (by rw [hn]; exact List.mem_cons_of_mem _ (List.mem_cons_self ..)) (.refl _)⟩
  · exact ⟨.step h (by rw [hn]; exact List.mem_cons_of_mem _ (List.mem_cons_self ..)) (.refl _), .step h (by rw [hn]; exact List.mem_cons_self ..) (.refl _)⟩
theorem repC_path {C : List PIns} {c : Nat → List PIns} {z : Nat} (hl : ∀ b, (c b).length = z) (hc : ∀ b, Seg C b (c b) → Path C b (b + z)) : ∀ k b, Seg C b (repC c z k b) → Path C b (b + k * z)
  | 0, b, _ => by rw [Nat.zero_mul]; exact .refl _
  | k + 1, b, h => by
    rw [repC] at h
    have h2 := h.right
    rw [hl] at h2
    have := repC_path hl hc k (b + z) h2
    rw [Nat.succ_mul, show b + (k * z + z) = b + z + k * z by omega]
    exact (hc b h.left).trans this
theorem code_path {C : List PIns} : ∀ (m : Nat) (t : Tr), t.flat.length ≤ m → ∀ b : Nat, t.ok → Seg C b (codeT t b) → Path C b (b + t.sz) := by
  intro m
  induction m with
  | zero => intro t h; have := t.flat_pos; omega
  | succ m ih =>
    rintro ⟨n, ks⟩ hm b hok h
    simp only [Tr.flat, List.length_cons] at hm
    simp only [Tr.ok] at hok
    have hcat : ∀ (ts : Trs) (b : Nat), ts.flat.length ≤ m → ts.ok → Seg C b (catT ts b) → Path C b (b + ts.sz) := by
      intro ts
      induction ts using Trs.rec (motive_1 := fun _ => True) with
      | mk => trivial
      | nil => intro b _ _ _; exact .refl _
      | cons t ts _ ih2 =>
        intro b h1 h2 h3
        simp only [Trs.flat, List.length_append] at h1
        simp only [Trs.ok] at h2
        simp only [catT] at h3
        have h4 := h3.right
        rw [codeT_len t b h2.1] at h4
        have h5 := ih2 (b + t.sz) (by omega) h2.2 h4
        simp only [Trs.sz]
        rw [← Nat.add_assoc]
        exact (ih t (by omega) b h2.1 h3.left).trans h5
    obtain ⟨hno, hks⟩ := hok
    obtain ⟨_, hq⟩ := hno
    have hkl := fun b => catT_len ks b hks
    simp only [codeT] at h
    simp only [Tr.sz]
    have hz : ∀ s k, nodSz n s k = if n.op = 2 ∨ n.op = 7 ∨ n.op = 8 then 1 else if n.op = 4 then s + 2 * (k - 1) else if n.op = 6 then s + 2 else if n.op = 5 then (if n.mx = -1 then n.mn.toNat * s + s + 2 else n.mn.toNat * s + (n.mx.toNat - n.mn.toNat) * (s + 1)) else s := fun s k => rfl
    rw [hz]
    by_cases q2 : n.op = 2
    · rw [if_pos q2] at h
      rw [if_pos (.inl q2)]
      exact Path.fall h.head (by show (1 : Int) ≠ 2 ∧ (1 : Int) ≠ 3 ∧ (1 : Int) ≠ 7; decide)
    rw [if_neg q2] at h
    by_cases q7 : n.op = 7
    · rw [if_pos q7] at h
      rw [if_pos (.inr (.inl q7))]
      exact Path.fall h.head (by show (5 : Int) ≠ 2 ∧ (5 : Int) ≠ 3 ∧ (5 : Int) ≠ 7; decide)
    rw [if_neg q7] at h
    by_cases q8 : n.op = 8
    · rw [if_pos q8] at h
      rw [if_pos (.inr (.inr q8))]
      exact Path.fall h.head (by show (6 : Int) ≠ 2 ∧ (6 : Int) ≠ 3 ∧ (6 : Int) ≠ 7; decide)
    rw [if_neg q8] at h
    rw [if_neg (by omega)]
    by_cases q3 : n.op = 3
    · rw [if_pos q3] at h
      rw [if_neg (by omega), if_neg (by omega), if_neg (by omega)]
      exact hcat ks b (by omega) hks h
    rw [if_neg q3] at h
    by_cases q4 : n.op = 4
    · rw [if_pos q4] at h
      have hz4 : nodSz n ks.sz ks.len = ks.sz + 2 * (ks.len - 1) := by rw [hz, if_neg (by omega), if_pos q4]
      rw [hz4] at h
      rw [if_pos q4]
      cases ks with
      | nil => simp only [Trs.len] at hq; omega
      | cons t ts =>
        simp only [Trs.len] at hq
        simp only [Trs.flat, List.length_append] at hm
        simp only [Trs.ok] at hks
        simp only [altT] at h
        rw [if_neg (by omega)] at h
        have h1 := (Path.sp h.head).1
        have h2 := ih t (by omega) (b + 1) hks.1 h.tail.left
        have h3 := h.tail.right
        rw [codeT_len t _ hks.1] at h3
        exact h1.trans (h2.trans (Path.jp h3.head))
    rw [if_neg q4] at h
    rw [if_neg q4]
    by_cases q5 : n.op = 5
    · rw [if_pos q5] at h
      rw [if_neg (by omega), if_pos q5]
      unfold rptC at h
      by_cases qx : n.mx = -1
      · rw [if_pos qx] at h ⊢
        have h1 := repC_path hkl (fun b hb => hcat ks b (by omega) hks hb) _ _ h.left
        have h2 := h.right
        rw [repC_len hkl] at h2
        have h3 := (Path.sp h2.head).2
        rw [show b + (n.mn.toNat * ks.sz + ks.sz + 2) = b + n.mn.toNat * ks.sz + ks.sz + 2 by omega]
        exact h1.trans h3
      · rw [if_neg qx] at h ⊢
        have h1 := repC_path hkl (fun b hb => hcat ks b (by omega) hks hb) _ _ h.left
        have h2 := h.right
        rw [repC_len hkl] at h2
        by_cases hd : n.mx.toNat - n.mn.toNat = 0
        · rw [hd, Nat.zero_mul, Nat.add_zero]; exact h1
        · obtain ⟨d, hd2⟩ : ∃ d, n.mx.toNat - n.mn.toNat = d + 1 := ⟨n.mx.toNat - n.mn.toNat - 1, by omega⟩
          rw [hd2] at h2 ⊢
          rw [optC] at h2
          have h3 := (Path.sp h2.head).2
          rw [← Nat.add_assoc]
          exact h1.trans h3
    rw [if_neg q5] at h
    by_cases q6 : n.op = 6
    · rw [if_pos q6] at h
      rw [if_pos q6]
      have h1 : Path C b (b + 1) := Path.fall h.head (by show (4 : Int) ≠ 2 ∧ (4 : Int) ≠ 3 ∧ (4 : Int) ≠ 7; decide)
      have h2 := hcat ks (b + 1) (by omega) hks h.tail.left
      have h3 := h.tail.right
      rw [hkl] at h3
      have h4 : Path C (b + 1 + ks.sz) (b + 1 + ks.sz + 1) := Path.fall h3.head (by show (4 : Int) ≠ 2 ∧ (4 : Int) ≠ 3 ∧ (4 : Int) ≠ 7; decide)
      rw [show b + (ks.sz + 2) = b + 1 + ks.sz + 1 by omega]
      exact h1.trans (h2.trans h4)
    · have hk0 : ks.len = 0 := by omega
      have := Trs.len_nil hk0
      subst this
      rw [if_neg q6, if_neg q5]
      exact .refl _
theorem dfs_in {code : List PIns} {I : Nat → Prop} (hI : ∀ u i, I u → code[u]? = some i → ∀ v ∈ nextS u i, I v.toNat) : ∀ (f : Nat) (seen : List Bool) (stk : List Int), (∀ v ∈ stk, I v.toNat) → (∀ u : Nat, seen[u]? = some true → I u) → ∀ u : Nat, (dfs code f seen stk)[u]? = some true → I u
  | 0, seen, stk, _, h2, u, h => h2 u h
  | f + 1, seen, [], _, h2, u, h => h2 u h
  | f + 1, seen, v :: stk, h1, h2, u, h => by
    have hv := h1 v (List.mem_cons_self ..)
    have hs : ∀ w ∈ stk, I w.toNat := fun w hw => h1 w (List.mem_cons_of_mem _ hw)
    unfold dfs at h
    split at h
    · split at h
      · rename_i i hi
        refine dfs_in hI f _ _ (fun w hw => ?_) (fun w hw => ?_) u h
        · rcases List.mem_append.1 hw with hw | hw
          · exact hI _ i hv hi w (List.mem_reverse.1 hw)
          · exact hs w hw
        · by_cases he : v.toNat = w
          · rw [← he]; exact hv
          · rw [List.getElem?_set_ne he] at hw; exact h2 w hw
      · exact h2 u h
    · exact dfs_in hI f _ _ hs h2 u h
theorem path_seen {code : List PIns} {start : Int} (hcl : closedS code) (hst : 0 ≤ start ∧ start < (code.length : Int)) {u v : Nat} (p : Path code u v) : (reachS code start)[u]? = some true → (reachS code start)[v]? = some true := by
  obtain ⟨ha, _, _, _⟩ := reach_ok hcl hst
  induction p with
  | refl => exact id
  | @step u v w i h hn _ ih =>
    intro hu
    refine ih ?_
    rcases ha u i hu h _ hn with hs | hs
    · exact seen_nat.2 hs
    · cases hs
theorem reach_start {code : List PIns} {s : Nat} (hcl : closedS code) (hs : s < code.length) : (reachS code (s : Nat))[s]? = some true := by
  obtain ⟨_, _, _, hd⟩ := reach_ok (start := ((s : Nat) : Int)) hcl ⟨by omega, by omega⟩
  rcases hd with hd | hd
  · exact seen_nat.2 hd
  · cases hd
mutual
theorem Tr.noop : ∀ t : Tr, True
  | .mk _ _ => trivial
theorem Trs.noop : ∀ t : Trs, True
  | .nil => trivial
  | .cons _ _ => trivial
end
theorem shape_rs {n : Nod} {g : Int} (h : (shapeN n g).2 = true) (h2 : n.op = 2) : rightS n.rs = true := by
  unfold shapeN at h
  split at h
  · cases h
  · rw [if_neg (show ¬ (n.op = 1 ∨ n.op = 7 ∨ n.op = 8) by omega)] at h
    have h : (n.kids == 0 && rightS n.rs) = true := h
    rw [Bool.and_eq_true] at h
    exact h.2
theorem kids_rs {l : List Nod} {h : Nat → Nat → Option (Nat × Nat)} (ih : ∀ at_ g r, h at_ g = some r → at_ ≤ r.1 ∧ ∀ j n, at_ ≤ j → j < r.1 → l[j]? = some n → n.op = 2 → rightS n.rs = true) : ∀ k at_ g r, kidsS h k at_ g = some r → at_ ≤ r.1 ∧ ∀ j n, at_ ≤ j → j < r.1 → l[j]? = some n → n.op = 2 → rightS n.rs = true
  | 0, at_, g, r, e => by
    simp only [kidsS, Option.some.injEq] at e
    subst e
    exact ⟨Nat.le_refl _, fun j n h1 h2 => by simp only at h2; omega⟩
  | k + 1, at_, g, r, e => by
    unfold kidsS at e
    cases hq : h at_ g with
    | none => rw [hq] at e; cases e
    | some q =>
      rw [hq] at e
      obtain ⟨t1, t2⟩ := ih _ _ _ hq
      obtain ⟨u1, u2⟩ := kids_rs ih k _ _ _ e
      refine ⟨Nat.le_trans t1 u1, fun j n h1 h2 hj ho => ?_⟩
      by_cases hjq : j < q.1
      · exact t2 j n h1 hjq hj ho
      · exact u2 j n (by omega) h2 hj ho
theorem one_rs {l : List Nod} : ∀ f at_ g r, oneW l f at_ g = some r → at_ ≤ r.1 ∧ ∀ j n, at_ ≤ j → j < r.1 → l[j]? = some n → n.op = 2 → rightS n.rs = true
  | 0, _, _, _, e => by simp [oneW] at e
  | f + 1, at_, g, r, e => by
    unfold oneW at e
    cases hn : l[at_]? with
    | none => rw [hn] at e; cases e
    | some n =>
      rw [hn] at e
      simp only at e
      split at e
      · rename_i hs
        obtain ⟨u1, u2⟩ := kids_rs (one_rs f) _ _ _ _ e
        refine ⟨by omega, fun j m h1 h2 hj ho => ?_⟩
        by_cases hja : j = at_
        · subst hja
          rw [hn] at hj
          cases hj
          exact shape_rs hs ho
        · exact u2 j m (by omega) h2 hj ho
      · cases e
theorem right_rs {l : List Nod} (h : rightN l = true) : rsR l := by
  unfold rightN at h
  simp only [Bool.and_eq_true] at h
  obtain ⟨_, h⟩ := h
  split at h
  · rename_i r hr
    rw [decide_eq_true_eq] at h
    obtain ⟨_, h2⟩ := one_rs _ _ _ _ hr
    intro n hn ho
    obtain ⟨j, hj⟩ := List.getElem?_of_mem hn
    exact h2 j n (Nat.zero_le _) (by rw [h]; exact lt_get hj) hj ho
  · cases h
structure RulesQ (n0 r0 : Nat) (C : List PIns) (B : List Int) (k : Nat) : Prop where
  bl : B.length = k
  fs : 0 < k → B[0]? = some ((n0 : Nat) : Int)
  el : ∀ j, j < k → ∃ (t : Tr) (b : Nat), t.ok ∧ rsR t.flat ∧ B[j]? = some (b : Int) ∧ n0 ≤ b ∧ (∀ b' : Int, B[j + 1]? = some b' → b' = ((b + t.sz + 3 : Nat) : Int)) ∧ (j + 1 = k → n0 + C.length = b + t.sz + 3) ∧ ∃ pre post, C = pre ++ ruleC t b (r0 + j) ++ post ∧ n0 + pre.length = b
  al : ∀ i q, C[i]? = some q → ∃ j, j < k ∧ ∃ (t : Tr) (b : Nat), B[j]? = some (b : Int) ∧ t.ok ∧ rsR t.flat ∧ b ≤ n0 + i ∧ n0 + i < b + t.sz + 3 ∧ b + t.sz + 3 ≤ n0 + C.length ∧ q ∈ ruleC t b (r0 + j) ∧ (ruleC t b (r0 + j))[n0 + i - b]? = some q
theorem compS_spec : ∀ (ls : List (List Nod)) (r : Nat) (c : List PIns) (s : List Int), (compS ls r c s).e = 0 → ∃ C B, (compS ls r c s).code = c ++ C ∧ (compS ls r c s).starts = s ++ B ∧ RulesQ c.length r C B ls.length
  | [], r, c, s, h => by
    rw [compS_nil']
    exact ⟨[], [], by simp, by simp, rfl, fun h => by simp at h, fun j hj => by simp at hj, fun i q hi => by simp at hi⟩
  | l :: ls, r, c, s, h => by
    rw [compS] at h ⊢
    by_cases hr : rightN l = false
    · rw [if_pos hr] at h; cases h
    rw [if_neg hr] at h ⊢
    rw [Bool.not_eq_false] at hr
    by_cases hb : 400 < c.length + min (treeN l).sz 401 + 3
    · rw [if_pos hb] at h; cases h
    rw [if_neg hb] at h ⊢
    obtain ⟨t1, t2⟩ := tree_is hr
    have hrs : rsR (treeN l).flat := by rw [t2]; exact right_rs hr
    have hlen := ruleC_len (b := c.length) (r := r) t1
    obtain ⟨C, B, h1, h2, h3⟩ := compS_spec ls (r + 1) _ _ h
    rw [List.length_append, hlen] at h3
    refine ⟨ruleC (treeN l) c.length r ++ C, ((c.length : Nat) : Int) :: B, by rw [h1, List.append_assoc], by rw [h2, List.append_assoc]; rfl, by simp [h3.bl], fun _ => rfl, fun j hj => ?_, fun i q hi => ?_⟩
    · cases j with
      | zero =>
        refine ⟨treeN l, c.length, t1, hrs, rfl, Nat.le_refl _, fun b' hb' => ?_, fun hj1 => ?_, [], C, by simp, by simp⟩
        · simp only [Nat.zero_add, List.getElem?_cons_succ] at hb'
          have hB := h3.bl
          have hlt := lt_get hb'
          rw [h3.fs (by omega)] at hb'
          cases hb'
          congr 1
        · simp only [List.length_cons] at hj1
          have hl0 : ls.length = 0 := by omega
          have hC : C = [] := by
            cases hc : C with
            | nil => rfl
            | cons q C' =>
              obtain ⟨j, hj, _⟩ := h3.al 0 q (by rw [hc]; rfl)
              omega
          rw [hC, List.append_nil, hlen]; omega
      | succ j =>
        simp only [List.length_cons] at hj
        obtain ⟨t, b, q1, q2, q3, q4, q5, q6, pre, post, q7, q8⟩ := h3.el j (by omega)
        refine ⟨t, b, q1, q2, q3, by omega, q5, fun hj1 => ?_, ruleC (treeN l) c.length r ++ pre, post, ?_, ?_⟩
        · simp only [List.length_cons] at hj1
          have := q6 (by omega)
          rw [List.length_append, hlen]; omega
        · rw [q7, show r + 1 + j = r + (j + 1) by omega]; simp only [List.append_assoc]
        · rw [List.length_append, hlen]; omega
    · by_cases hil : i < (ruleC (treeN l) c.length r).length
      · rw [List.getElem?_append_left hil] at hi
        refine ⟨0, by simp, treeN l, c.length, rfl, t1, hrs, by omega, by omega, by rw [List.length_append, hlen]; omega, List.mem_of_getElem? hi, ?_⟩
        rw [show c.length + i - c.length = i by omega]; exact hi
      · rw [List.getElem?_append_right (by omega)] at hi
        obtain ⟨j, q1, t, b, q2, q3, q4, q5, q6, q7, q8, q9⟩ := h3.al _ q hi
        rw [hlen] at q5 q6 q9 hil
        refine ⟨j + 1, by simp only [List.length_cons]; omega, t, b, q2, q3, q4, by omega, by omega, by rw [List.length_append, hlen]; omega, by rw [show r + (j + 1) = r + 1 + j by omega]; exact q8, ?_⟩
        rw [show r + (j + 1) = r + 1 + j by omega, show c.length + i - b = c.length + ((treeN l).sz + 3) + (i - ((treeN l).sz + 3)) - b by omega]
        exact q9
theorem good_next {lo hi u : Nat} {i : PIns} (h : GoodI lo hi i) (h1 : lo ≤ u + 1) (h2 : u + 1 ≤ hi) : ∀ v ∈ nextS u i, (lo : Int) ≤ v ∧ v ≤ hi := by
  intro v hv
  unfold nextS at hv
  rcases h with ⟨a, _⟩ | ⟨a, _, c, d⟩ | ⟨a, _, _, d⟩ | ⟨a, _⟩ | ⟨a, _⟩
  · rw [if_neg (by omega), if_neg (by omega), if_neg (by omega)] at hv
    simp only [List.mem_cons, List.not_mem_nil, or_false] at hv; omega
  · rw [if_pos a] at hv
    simp only [List.mem_cons, List.not_mem_nil, or_false] at hv
    rcases hv with rfl | rfl <;> omega
  · rw [if_neg (by omega), if_pos a] at hv
    simp only [List.mem_cons, List.not_mem_nil, or_false] at hv; omega
  · rw [if_neg (by omega), if_neg (by omega), if_neg (by omega)] at hv
    simp only [List.mem_cons, List.not_mem_nil, or_false] at hv; omega
  · rw [if_neg (by omega), if_neg (by omega), if_neg (by omega)] at hv
    simp only [List.mem_cons, List.not_mem_nil, or_false] at hv; omega
theorem good_shaped {lo hi n ns pc : Nat} {i : PIns} (h : GoodI lo hi i) (h1 : hi < n) (h2 : pc + 1 < n) : shapedS n ns pc i = true := by
  have hin : ∀ v : Int, (lo : Int) ≤ v → v ≤ hi → inS v n = true := fun v a b => inS_iff.2 ⟨by omega, by omega⟩
  have hd : decide (((pc + 1 : Nat) : Int) < n) = true := by rw [decide_eq_true_eq]; omega
  unfold shapedS
  rcases h with ⟨a, b, c, d⟩ | ⟨a, b, c, d⟩ | ⟨a, b, c, d⟩ | ⟨a, b, c, d⟩ | ⟨a, b, c, d⟩
  · rw [if_pos a, hd, b, c, d]; rfl
  · rw [if_neg (by omega), if_pos a, b, hin _ c.1 c.2, hin _ d.1 d.2]; rfl
  · rw [if_neg (by omega), if_neg (by omega), if_pos a, b, c, hin _ d.1 d.2]; rfl
  · rw [if_neg (by omega), if_neg (by omega), if_neg (by omega), if_pos a, b, c, hd, inS_iff.2 ⟨d.1, d.2⟩]; rfl
  · rw [if_neg (by omega), if_neg (by omega), if_neg (by omega), if_neg (by omega), if_pos a, b, c, hd, d]; rfl
theorem rule_good {t : Tr} {b r o : Nat} {q : PIns} (h1 : t.ok) (h2 : rsR t.flat) (h : (ruleC t b r)[o]? = some q) : (o < t.sz + 2 ∧ GoodI b (b + t.sz + 2) q) ∨ (o = t.sz + 2 ∧ q = mkI 7 (r : Nat) 0 []) := by
  have hl := codeT_len t (b + 1) h1
  have hA : ruleC t b r = (mkI 4 0 0 [] :: (codeT t (b + 1) ++ [mkI 4 1 0 []])) ++ [mkI 7 (r : Nat) 0 []] := by unfold ruleC; simp
  have hAl : (mkI 4 0 0 [] :: (codeT t (b + 1) ++ [mkI 4 1 0 []])).length = t.sz + 2 := by simp [hl]
  rw [hA] at h
  by_cases ho : o < t.sz + 2
  · rw [List.getElem?_append_left (by omega)] at h
    refine .inl ⟨ho, ?_⟩
    have hm := List.mem_of_getElem? h
    rcases List.mem_cons.1 hm with rfl | hm
    · exact GoodI.save (by omega)
    · rcases List.mem_append.1 hm with hm | hm
      · exact (codeT_good t (b + 1) h1 h2 q hm).mono (by omega) (by omega)
      · simp only [List.mem_cons, List.not_mem_nil, or_false] at hm; subst hm; exact GoodI.save (by omega)
  · rw [List.getElem?_append_right (by omega), hAl] at h
    have h0 := lt_get h
    simp only [List.length_cons, List.length_nil] at h0
    have ho2 : o = t.sz + 2 := by omega
    refine .inr ⟨ho2, ?_⟩
    rw [ho2, Nat.sub_self] at h
    exact (Option.some.inj h).symm
structure RuleQ (p : Pg) (r s e : Nat) : Prop where
  st : p.starts[r]? = some (s : Int)
  se : s < e
  el : e ≤ p.code.length
  nx : ∀ b' : Int, p.starts[r + 1]? = some b' → b' = (e : Int)
  la : r + 1 = p.starts.length → p.code.length = e
  mt : p.code[e - 1]? = some (mkI 7 (r : Nat) 0 [])
  fi : (reachN p (r : Nat))[0]? = some (s : Int)
  lt : (reachN p (r : Nat))[(reachN p (r : Nat)).length - 1]? = some ((e - 1 : Nat) : Int)
theorem rise_ends {X : List Int} {a b : Int} (hp : X.Pairwise (· < ·)) (ha : a ∈ X) (hb : b ∈ X) (h : ∀ v ∈ X, a ≤ v ∧ v ≤ b) : X[0]? = some a ∧ X[X.length - 1]? = some b := by
  obtain ⟨i, hi⟩ := List.getElem?_of_mem ha
  obtain ⟨j, hj⟩ := List.getElem?_of_mem hb
  have hil := lt_get hi
  have hjl := lt_get hj
  have hlt : ∀ u v (x y : Int), u < v → X[u]? = some x → X[v]? = some y → x < y := fun u v x y huv hx hy => by
    have := List.pairwise_iff_getElem.1 hp u v (lt_get hx) (lt_get hy) huv
    have ex : X[u]'(lt_get hx) = x := Option.some.inj ((List.getElem?_eq_getElem _).symm.trans hx)
    have ey : X[v]'(lt_get hy) = y := Option.some.inj ((List.getElem?_eq_getElem _).symm.trans hy)
    rw [ex, ey] at this; exact this
  constructor
  · obtain ⟨x, hx⟩ : ∃ x, X[0]? = some x := ⟨X[0]'(by omega), List.getElem?_eq_getElem _⟩
    have := h x (List.mem_of_getElem? hx)
    by_cases h0 : i = 0
    · rw [← h0]; exact hi
    · have := hlt 0 i x a (by omega) hx hi
      omega
  · obtain ⟨x, hx⟩ : ∃ x, X[X.length - 1]? = some x := ⟨X[X.length - 1]'(by omega), List.getElem?_eq_getElem _⟩
    have := h x (List.mem_of_getElem? hx)
    by_cases h0 : j = X.length - 1
    · rw [← h0]; exact hj
    · have := hlt j (X.length - 1) b x (by omega) hj hx
      omega
theorem made_right {parts : List (List Nod)} (hl : parts.length ≤ 8) (he : (compileS parts).e = 0) (hcl : (compileS parts).code.length ≤ 400) :
    RightQ (pgV (compileS parts).code (compileS parts).starts) ∧ (compileS parts).starts.length = parts.length ∧ ∀ r, r < parts.length → ∃ s e, RuleQ (pgV (compileS parts).code (compileS parts).starts) r s e := by
  have hcs : compileS parts = compS parts 0 [] [] := by unfold compileS; rw [if_neg (by omega)]
  rw [hcs] at he hcl ⊢
  obtain ⟨C, B, h1, h2, h3⟩ := compS_spec parts 0 [] [] he
  simp only [List.nil_append] at h1 h2
  simp only [List.length_nil] at h3
  rw [h1] at hcl
  rw [h1, h2]
  have hBl := h3.bl
  have hsh : ∀ pc i, C[pc]? = some i → shapedS C.length B.length pc i = true := by
    intro pc i hi
    obtain ⟨j, q1, t, b, q2, q3, q4, q5, q6, q7, q8, q9⟩ := h3.al pc i hi
    rw [Nat.zero_add] at q9
    rcases rule_good q3 q4 q9 with ⟨g1, g2⟩ | ⟨g1, g2⟩
    · exact good_shaped g2 (by omega) (by omega)
    · rw [g2]
      have : inS ((j : Nat) : Int) B.length = true := inS_iff.2 ⟨by omega, by omega⟩
      unfold shapedS mkI
      simp [this]
  have hclo : closedS C := closed_of (p := pgV C B) hsh
  have hrule : ∀ r, r < parts.length → ∃ s e : Nat, B[r]? = some (s : Int) ∧ s < e ∧ e ≤ C.length ∧ (∀ b' : Int, B[r + 1]? = some b' → b' = (e : Int)) ∧ (r + 1 = parts.length → C.length = e) ∧ C[e - 1]? = some (mkI 7 (r : Nat) 0 []) ∧ (∀ u : Nat, (reachS C (s : Nat))[u]? = some true → s ≤ u ∧ u < e) ∧ (reachS C (s : Nat))[s]? = some true ∧ (reachS C (s : Nat))[e - 1]? = some true ∧ ∀ u i, s ≤ u → u < e → C[u]? = some i → i.op = 7 → i.x = (r : Int) := by
    intro r hr
    obtain ⟨t, b, q1, q2, q3, q4, q5, q6, pre, post, q7, q8⟩ := h3.el r hr
    rw [Nat.zero_add] at q6 q8
    rw [Nat.zero_add] at q7
    have hrl := ruleC_len (b := b) (r := r) q1
    have hCl : C.length = b + (t.sz + 3) + post.length := by rw [q7, List.length_append, List.length_append, hrl, q8]
    have hat : ∀ u, b ≤ u → u < b + t.sz + 3 → C[u]? = (ruleC t b r)[u - b]? := fun u g1 g2 => by
      rw [q7, List.append_assoc, List.getElem?_append_right (by omega), q8, List.getElem?_append_left (by omega)]
    have hseg : Seg C b (ruleC t b r) := ⟨post, by rw [q7, List.append_assoc, ← q8, List.drop_left]⟩
    have hin : ∀ u : Nat, (reachS C (b : Nat))[u]? = some true → b ≤ u ∧ u < b + t.sz + 3 := by
      unfold reachS
      refine dfs_in (I := fun u => b ≤ u ∧ u < b + t.sz + 3) (fun u i hu hi v hv => ?_) _ _ _ (fun v hv => ?_) (fun u hu => ?_)
      · rw [hat u hu.1 hu.2] at hi
        rcases rule_good q1 q2 hi with ⟨g1, g2⟩ | ⟨g1, g2⟩
        · have := good_next (u := u) g2 (by omega) (by omega) v hv
          omega
        · rw [g2] at hv
          have : nextS u (mkI 7 (r : Nat) 0 []) = [] := by unfold nextS mkI; simp
          rw [this] at hv; cases hv
      · simp only [List.mem_cons, List.not_mem_nil, or_false] at hv; subst hv
        rw [Int.toNat_natCast]; omega
      · rw [List.getElem?_replicate] at hu
        split at hu <;> cases hu
    have hs := reach_start (s := b) hclo (by omega)
    have hmt : C[b + t.sz + 3 - 1]? = some (mkI 7 (r : Nat) 0 []) := by
      rw [hat _ (by omega) (by omega)]
      unfold ruleC
      have hl1 := codeT_len t (b + 1) q1
      rw [show b + t.sz + 3 - 1 - b = (t.sz + 1) + 1 by omega, List.getElem?_cons_succ, List.getElem?_append_right (by omega), hl1, show t.sz + 1 - t.sz = 1 by omega]
      rfl
    have hpath : Path C b (b + t.sz + 3 - 1) := by
      unfold ruleC at hseg
      have p1 : Path C b (b + 1) := Path.fall hseg.head (by show (4 : Int) ≠ 2 ∧ (4 : Int) ≠ 3 ∧ (4 : Int) ≠ 7; decide)
      have p2 := code_path (C := C) _ t (Nat.le_refl _) (b + 1) q1 hseg.tail.left
      have h4 := hseg.tail.right
      rw [codeT_len t _ q1] at h4
      have p3 : Path C (b + 1 + t.sz) (b + 1 + t.sz + 1) := Path.fall h4.head (by show (4 : Int) ≠ 2 ∧ (4 : Int) ≠ 3 ∧ (4 : Int) ≠ 7; decide)
      rw [show b + t.sz + 3 - 1 = b + 1 + t.sz + 1 by omega]
      exact p1.trans (p2.trans p3)
    refine ⟨b, b + t.sz + 3, q3, by omega, by omega, fun b' hb' => q5 b' hb', q6, hmt, hin, hs, path_seen hclo ⟨by omega, by omega⟩ hpath hs, fun u i g1 g2 hi ho => ?_⟩
    rw [hat u g1 g2] at hi
    rcases rule_good q1 q2 hi with ⟨_, g3⟩ | ⟨_, g3⟩
    · rcases g3 with ⟨a, _⟩ | ⟨a, _⟩ | ⟨a, _⟩ | ⟨a, _⟩ | ⟨a, _⟩ <;> omega
    · rw [g3]; rfl
  have hR : RightQ (pgV C B) := by
    refine ⟨hcl, by show B.length ≤ 8; omega, hsh, fun v hv => ?_, fun r s hs pc i hpc hseen hi ho => ?_⟩
    · obtain ⟨r, hr⟩ := List.getElem?_of_mem (show v ∈ B from hv)
      obtain ⟨s, e, g1, g2, g3, _⟩ := hrule r (by rw [← hBl]; exact lt_get hr)
      rw [g1] at hr
      cases hr
      show (0 : Int) ≤ (s : Int) ∧ (s : Int) < (C.length : Int)
      omega
    · have hs : B[r]? = some s := hs
      obtain ⟨s', e, g1, g2, g3, g4, g5, g6, g7, g8, g9, g10⟩ := hrule r (by rw [← hBl]; exact lt_get hs)
      rw [g1] at hs
      cases hs
      obtain ⟨k1, k2⟩ := g7 pc hseen
      exact g10 pc i k1 k2 hi ho
  refine ⟨hR, by rw [hBl], fun r hr => ?_⟩
  obtain ⟨s, e, g1, g2, g3, g4, g5, g6, g7, g8, g9, g10⟩ := hrule r hr
  have hrn : reachN (pgV C B) (r : Nat) = numsS 0 (reachS C (s : Nat)) := by
    unfold reachN
    have hi : inS ((r : Nat) : Int) (pgV C B).starts.length = true := inS_iff.2 ⟨by omega, by show ((r : Nat) : Int) < (B.length : Nat); omega⟩
    rw [dec_yes hR, hi]
    have hgd : (pgV C B).starts.getD ((r : Nat) : Int).toNat 0 = (s : Int) := by
      rw [Int.toNat_natCast, List.getD_eq_getElem?_getD]
      show (B[r]?).getD 0 = _
      rw [g1]; rfl
    rw [hgd]; rfl
  have hends := rise_ends (nums_rise (reachS C (s : Nat)) 0) (a := (s : Int)) (b := ((e - 1 : Nat) : Int)) (nums_mem.2 ⟨s, g8, by rw [Nat.zero_add]⟩) (nums_mem.2 ⟨e - 1, g9, by rw [Nat.zero_add]⟩) (fun v hv => by
    obtain ⟨k, k1, k2⟩ := nums_mem.1 hv
    have := g7 k k1
    omega)
  exact ⟨s, e, g1, g2, g3, fun b' hb' => g4 b' hb', fun hr1 => g5 (by rw [← hBl]; exact hr1), g6, by rw [hrn]; exact hends.1, by rw [hrn]; exact hends.2⟩
theorem compS_bad : ∀ (ls : List (List Nod)) (r : Nat) (c : List PIns) (s : List Int), (compS ls r c s).e ≠ 0 → (compS ls r c s).code = [] ∧ (compS ls r c s).starts = []
 | [], r, c, s, h => by rw [compS_nil] at h; exact absurd rfl h
 | l :: ls, r, c, s, h => by
  rw [compS] at h ⊢
  split
  ·exact ⟨rfl, rfl⟩
  ·rename_i h1;rw [if_neg h1] at h
   split
   ·exact ⟨rfl, rfl⟩
   ·rename_i h2;rw [if_neg h2] at h;exact compS_bad ls _ _ _ h
theorem compile_bad {ls : List (List Nod)} (h : (compileS ls).e ≠ 0) : (compileS ls).code = [] ∧ (compileS ls).starts = [] := by
 unfold compileS at h ⊢
 split
 ·exact ⟨rfl, rfl⟩
 ·rename_i h1;rw [if_neg h1] at h;exact compS_bad _ _ _ _ h
theorem right_none : RightQ (pgV [] []) := ⟨by simp [pgV], by simp [pgV], fun pc i h => by simp [pgV] at h, fun v h => by simp [pgV] at h, fun r s h => by simp [pgV] at h⟩
theorem compile_right {ls : List (List Nod)} (hl : ls.length ≤ 8) (hcl : (compileS ls).code.length ≤ 400) : RightQ (pgV (compileS ls).code (compileS ls).starts) := by
 by_cases he : (compileS ls).e = 0
 ·exact (made_right hl he hcl).1
 ·rw [(compile_bad he).1, (compile_bad he).2]; exact right_none
def ixF_Bk (fr : Go.V.Fr) (k : Nat) : Go.V.D := Go.V.nth .junk fr.loc k
noncomputable def partsX (ps : List (List UInt8)) : List (List Nod) := ps.map fun b => (parseX b).1
theorem partsX_succ {ps : List (List UInt8)} {i : Nat} {b : List UInt8} (h : ps[i]? = some b) : partsX (ps.take (i + 1)) = partsX (ps.take i) ++ [(parseX b).1] := by
 unfold partsX;rw [List.take_add_one, h, Option.toList_some, List.map_append]; rfl
theorem made14x_ev {s0 : St} {x : D} {ps : List (List UInt8)} (hx : V.Rows s0 1 x (ps.map strC)) (hl : ps.length ≤ 1048576) (hb : ∀ b ∈ ps, b.length ≤ 1048576) : ∃ d, Ev pv 25 [x] s0 d s0 ∧ ∃ (p : Pg) (ok : Bool), d = .tup [p.d, .bool ok] ∧ p.ok ∧ p.code.length ≤ 400 ∧ (ok = true → (compileS (partsX ps)).e = 0 ∧ p = pgV (compileS (partsX ps)).code (compileS (partsX ps)).starts) := by
 refine Ev.mkR rfl fi25 rfl rfl rfl ?_;dsimp only [u3, u4, List.length, Nat.reduceSub, Nat.reduceAdd, w1, w2];obtain ⟨hSb, hF, hH⟩ := ri s0;generalize enterSt .ro s0 = S at *;have hx := Arg.of hx hSb;refine qq ?_;refine qj fun K hK => ?_;refine qa hH fun k2 st hk2 hH => ?_;refine qm ?_;refine qe hK ?_;refine qq ?_;refine qj fun K hK => ?_;refine qm ?_;refine qe hK ?_;refine qq ?_;refine qq ?_;refine qj fun K hK => ?_;refine qm ?_;refine qe hK ?_;have hH : Has s0.bs.length S st (.lst .nul 1 ((partsX (ps.take 0)).map partC) :: .box k2 (.mem 0 false [.nul, .nul]) :: []) := hH.nulE 1;refine EvC.block ?_;refine EvC.loop (fun mm fr st => ∃ (i : Nat) (ld : D), fr.clean = ⟨11, [x, ixF_Bk fr 1, .ptr k2 0 0, .bool false, ld, .int .i64 (i : Nat), ixF_Bk fr 6, ixF_Bk fr 7, ixF_Bk fr 8, ixF_Bk fr 9, ixF_Bk fr 10], []⟩ ∧ Has s0.bs.length S st [.lst ld 1 ((partsX (ps.take i)).map partC), .box k2 (.mem 0 false [.nul, .nul])] ∧ (i + mm = ps.length) ∧ (∀ l ∈ partsX (ps.take i), (∀ n ∈ l, NdV n) ∧ l.length ≤ 500)) (ps.length) ?_ ?_
 ·exact ⟨0, .nul, rfl, hH, by omega, fun l hl => (by cases hl)⟩
 rintro mm fr st ⟨i, ld, hfr, hH, hi, hp⟩;rw [hfr];clear hfr;generalize ixF_Bk fr = ee;clear fr;refine qq ?_;refine qq ?_;refine qj fun K hK => ?_;refine qm ?_;refine qm ?_;refine qn ?_;simp only [List.length_map];refine qg ?_;refine qe hK ?_
 by_cases hlt : i < ps.length
 ·obtain ⟨b, hbb⟩ : ∃ b, ps[i]? = some b := ⟨ps[i]'hlt, List.getElem?_eq_getElem _⟩
  have hr1 := str_get hbb;have hbl := hb b (List.mem_of_getElem? hbb);have hc2 : decide (((i : Nat) : Int) < ((ps.length : Nat) : Int)) = true := by rw [decide_eq_true_eq]; omega
  refine qD rfl (by rw [hc2]) ?_;refine EvC.skip ?_;refine qq ?_;refine EvC.block ?_;obtain ⟨hev, hv, hll⟩ := parseX_ev (s0 := st) hbl;have hsu := partsX_succ hbb;have hpxl : (partsX (ps.take i)).length ≤ 1048576 := by unfold partsX; rw [List.length_map, List.length_take]; omega
  generalize parseX b = X at *;obtain ⟨l, e, w⟩ := X;dsimp only at hv hll hsu;unfold parseD at hev;dsimp only at hev;refine qq ?_;refine qj fun K hK => ?_;refine qm ?_;refine qm ?_;refine qr fun p21 hp21 => ?_;refine qR ?_;refine qv (hev) ?_;refine qm ?_;refine qg ?_;refine qg ?_;refine qg ?_;refine qm ?_;refine qm ?_;refine qm ?_;refine qe hK ?_;refine qq ?_;refine qq ?_;refine qj fun K hK => ?_;refine qm ?_;refine qg ?_;refine qe hK ?_;refine EvC.cond (by rfl) (fun he => ?_) (fun he => ?_) <;> try simp only [bne_iff_ne, bne_eq_false_iff_eq, ne_eq] at he
  ·refine qq ?_;refine qj fun K hK => ?_;refine EvO.go (d := .agg [.nul, .nul]) (st1 := _) rfl rfl rfl (put_T rfl _) ?_;refine qS hH at1 fun st hH => ?_;dsimp only [u2, u1, u3, u4, setMany, u5, u6, D.cells, Nat.reduceAdd, partC, compD, Pg.d, Pg.cs, pgV, parseD] at hH;refine qm ?_;refine qe hK ?_;refine EvC.ret ⟨rx, _, _, hH.resCellT rfl at1 rfl rfl, rl hSb hH (show _ = some (D.tup [(pgV [] []).d, .bool false]) from rfl), ⟨_, _, rfl, pgV_ok (fun i hi => (by cases hi)) (by simp) (by simp), by simp [pgV], fun h => (by cases h)⟩⟩
  ·refine EvC.skip ?_;refine qj fun K hK => ?_;refine qm ?_;refine qm ?_;refine qh (s := 1) (vs := [_]) hH fun k32 st hk32 hH => ?_;refine EvO.happend (s := 1) hH rfl (ev rfl) (ev rfl) (by exact at1) (by exact hH.rows (by exact at0)) rfl rfl rfl rfl rfl rfl rfl ⟨(Nat.le_of_ble_eq_true rfl), (Nat.le_of_ble_eq_true rfl)⟩ (fun _ => (put_T rfl _)) (by simp only [List.length_cons, List.length_nil, List.length_map] <;> omega) (by exact .inl hF) (fun x33 st hH => ?_);dsimp only [u2, u1, u3, u4, setMany, u5, u6, D.cells, Nat.reduceAdd, partC, compD, Pg.d, Pg.cs, pgV, parseD] at hH;refine qm ?_;refine qe hK ?_;have hH := hH.drop 1;refine qj fun K hK => ?_;refine qm ?_;refine qA ?_;refine qm ?_;refine qe hK ?_;refine ⟨mm - 1, by omega, ⟨i + 1, x33, rfl, (by rw [hsu, List.map_append]; exact hH), by omega, ?_⟩⟩;rw [hsu];intro l' hl'
   rcases List.mem_append.1 hl' with hl' | hl'
   ·exact hp l' hl'
   ·simp only [List.mem_cons, List.not_mem_nil, or_false] at hl'; subst hl'; exact ⟨hv, hll⟩
 ·have hc2 : decide (((i : Nat) : Int) < ((ps.length : Nat) : Int)) = false := by rw [decide_eq_false_iff_not]; omega
  refine qE rfl (by rw [hc2]) ?_;refine EvC.exit ?_;rw [List.take_of_length_le (by omega)] at hp hH;obtain ⟨hev, hok, hlen⟩ := comp_parts hp (by unfold partsX; rw [List.length_map]; exact hl) (hH.rows at0)
  obtain ⟨R, hRe⟩ : ∃ R, compileS (partsX ps) = R := ⟨_, rfl⟩
  rw [hRe] at hev hok hlen;refine qq ?_;refine qj fun K hK => ?_;refine qm ?_;refine qv (hev) ?_;refine qm ?_;refine qg ?_;refine qg ?_;refine qg ?_;refine qa hH fun k9 st hk9 hH => ?_;refine qS hH at0 fun st hH => ?_;dsimp only [u2, u1, u3, u4, setMany, u5, u6, D.cells, Nat.reduceAdd, partC, compD, Pg.d, Pg.cs, pgV, parseD] at hH;refine qm ?_;refine qm ?_;refine qe hK ?_;refine qq ?_;refine qj fun K hK => ?_;refine EvO.hloadS (m := 2) hH rfl (ev rfl) (by exact at0) (by dsimp only [List.drop_succ_cons, List.drop_zero, List.take_succ_cons, List.take_zero, partC, compD, Pg.d, Pg.cs, pgV, parseD] <;> rfl) rfl rfl (put_T rfl _) ?_;refine qm ?_;refine qg ?_;refine qS hH at2 fun st hH => ?_;dsimp only [u2, u1, u3, u4, setMany, u5, u6, D.cells, Nat.reduceAdd, partC, compD, Pg.d, Pg.cs, pgV, parseD] at hH;refine qm ?_;refine qe hK ?_;refine EvC.ret ⟨rx, _, _, hH.resCellT rfl at2 rfl rfl, rl hSb hH (show _ = some (D.tup [(pgV R.code R.starts).d, .bool (R.e == 0)]) from rfl), ⟨_, _, rfl, hok, hlen, fun h => ⟨by rw [hRe]; simpa using h, by rw [hRe]⟩⟩⟩
theorem made14r_ev {s0 : St} {x : D} {ps : List (List UInt8)} (hx : V.Rows s0 1 x (ps.map strC)) (hl : ps.length ≤ 8) (hb : ∀ b ∈ ps, b.length ≤ 1048576) : ∃ d, Ev pv 25 [x] s0 d s0 ∧ ∃ (p : Pg) (ok : Bool), d = .tup [p.d, .bool ok] ∧ p.ok ∧ p.code.length ≤ 400 ∧ (ok = true → (compileS (partsX ps)).e = 0 ∧ p = pgV (compileS (partsX ps)).code (compileS (partsX ps)).starts ∧ RightQ p) := by
 obtain ⟨d, h1, p, ok, h2, h3, h4, h5⟩ := made14x_ev (s0 := s0) hx (by omega) hb;refine ⟨d, h1, p, ok, h2, h3, h4, fun h => ?_⟩;obtain ⟨h6, h7⟩ := h5 h;refine ⟨h6, h7, ?_⟩;subst h7;exact compile_right (by unfold partsX; rw [List.length_map]; exact hl) h4
end Go.Proofs.Ytnleclohocdkaaa
