/- own -/
import Derived.Test.YtnleclohocdkaaaWGQh
import Derived.Test.YtnleclohocdkaaaWGQs
import Derived.Test.YtnleclohocdkaaaWGYa
import Derived.Test.YtnleclohocdkaaaRows
import Derived.WalkKit
import Derived.ProofKit
import Derived.OpenShut
import Derived.JoinedCond
import Derived.ChangeOld
set_option maxRecDepth 100000
set_option maxHeartbeats 4000000
set_option linter.unusedSimpArgs false
set_option linter.unusedVariables false
namespace Go.Proofs.Ytnleclohocdkaaa.checkTurned
open Go.ChangeShapes Go.WideShapes Go.ChangeAt Go.RowKit Go.V
def ixF_CheckTurnedLaw (fr : Go.V.Fr) (k : Nat) : Go.V.D := Go.V.nth .junk fr.loc k
theorem rem_op (a : Int) (n : Nat) (hn : n <= 100000000) (st : St) : (binD pv .rem 3 (.int .i64 a) (.int .i64 (((n : Nat) : Int) + 1))).map (fun d => (d,st)) = some (.int .i64 (a.tmod ((n : Nat) + 1)),st) := by
 have h1 : a.tmod ((n : Nat) + 1) < (n : Nat) + 1 := Int.tmod_lt_of_pos a (by omega)
 have h2 : -((n : Nat) + 1 : Int) < a.tmod ((n : Nat) + 1) := Int.lt_tmod_of_pos a (by omega)
 show Option.map _ (if ((n : Nat) : Int) + 1 = 0 then none else some (D.int .i64 (a.tmod ((n : Nat) + 1)))) = _
 rw [if_neg (by omega)]; rfl
theorem rem5 (a : Int) (st : St) : (binD pv .rem 3 (.int .i64 a) (.int .i64 5000)).map (fun d => (d,st)) = some (.int .i64 (a.tmod 5000),st) := by
 show Option.map _ (if (5000 : Int) = 0 then none else some (D.int .i64 (a.tmod 5000))) = _
 rw [if_neg (by omega)]; rfl
theorem withinN_ev {s0 : St} (a : Int) (n : Nat) (hn : n <= 100000000) : ∃ d,Ev pv 15 [.int .i64 a, .int .i64 0, .int .i64 (n : Nat)] s0 d s0 /\ ∃ k : Nat,d = .int .i64 (k : Nat) /\ k <= n := by
 have h1 : a.tmod ((n : Nat) + 1) < (n : Nat) + 1 := Int.tmod_lt_of_pos a (by omega)
 have h2 : -((n : Nat) + 1 : Int) < a.tmod ((n : Nat) + 1) := Int.lt_tmod_of_pos a (by omega)
 refine Ev.mkR rfl fi15 rfl rfl rfl ?_
 dsimp only [List.cons_append,List.nil_append,List.length,Nat.reduceSub,Nat.reduceAdd,List.replicate_succ,List.replicate_zero]
 have hSb : (enterSt .ro s0).bs = s0.bs := rfl
 have hF : (enterSt .ro s0).flr <= s0.bs.length := Nat.le_refl _
 have hH : Has s0.bs.length (enterSt .ro s0) (enterSt .ro s0) [] := Has.start (Nat.le_refl _) (Nat.le_refl _)
 generalize enterSt .ro s0 = S at *
 try change EvC _ _ _ _ _ _
 repeat refine EvC.seq ?_
 try generalize hK : SeqQ _ _ _ _ = K
 refine EvC.reg ?_
 refine EvO.mv (.inr rfl) rfl (ev rfl) (by dsimp only [Fr.put,List.set_cons_succ,List.set_cons_zero] <;> rfl) ?_
 refine EvO.nil ?_
 try subst hK
 try change EvC _ _ _ _ _ _
 try change EvC _ _ _ _ _ _
 repeat refine EvC.seq ?_
 try generalize hK : SeqQ _ _ _ _ = K
 refine EvC.reg ?_
 refine EvO.mv (.inl rfl) rfl (ev rfl) (put_T rfl _) ?_
 refine EvO.mv (.inl rfl) rfl (ev rfl) (put_T rfl _) ?_
 refine EvO.mv (.inl rfl) rfl (ev rfl) (put_T rfl _) ?_
 refine EvO.subZ (z := ((n : Nat) : Int)) rfl (ev rfl) (ev rfl) (by (try simp only [List.length_reverse,List.length_cons,List.length_nil,List.length_append,List.length_map,List.length_set]); first | (rw [wrap_i64 (by omega) (by omega)] <;> omega) | (rw [wrap_i32 (by omega) (by omega)] <;> omega)) (put_T rfl _) ?_
 refine EvO.addZ (z := (((n : Nat) : Int) + 1)) rfl (ev rfl) (ev rfl) (by (try simp only [List.length_reverse,List.length_cons,List.length_nil,List.length_append,List.length_map,List.length_set]); first | (rw [wrap_i64 (by omega) (by omega)] <;> omega) | (rw [wrap_i32 (by omega) (by omega)] <;> omega)) (put_T rfl _) ?_
 refine EvO.go (d := .int .i64 (a.tmod ((n : Nat) + 1))) (st1 := _) rfl rfl (by exact rem_op a n hn _) (put_T rfl _) ?_
 refine EvO.mv (.inr rfl) rfl (ev rfl) (by dsimp only [Fr.put,List.set_cons_succ,List.set_cons_zero] <;> rfl) ?_
 refine EvO.nil ?_
 try subst hK
 try change EvC _ _ _ _ _ _
 generalize a.tmod ((n : Nat) + 1) = m at *
 try change EvC _ _ _ _ _ _
 repeat refine EvC.seq ?_
 try generalize hK : SeqQ _ _ _ _ = K
 refine EvC.reg ?_
 refine EvO.mv (.inl rfl) rfl (ev rfl) (put_T rfl _) ?_
 refine EvO.go rfl rfl rfl (put_T rfl _) ?_
 refine EvO.nil ?_
 try subst hK
 try change EvC _ _ _ _ _ _
 try change EvC _ _ _ _ _ _
 repeat refine EvC.seq ?_
 refine EvC.cond (by first | rfl | assumption) (fun hc => ?_) (fun hc => ?_) <;> try simp only [decide_eq_true_eq,decide_eq_false_iff_not,beq_iff_eq,beq_eq_false_iff_ne,bne_iff_ne,bne_eq_false_iff_eq,ne_eq,Bool.not_eq_true',Bool.not_eq_false',Bool.not_eq_true,Bool.not_eq_false] at hc
 ·try change EvC _ _ _ _ _ _
  repeat refine EvC.seq ?_
  try generalize hK : SeqQ _ _ _ _ = K
  refine EvC.reg ?_
  refine EvO.mv (.inl rfl) rfl (ev rfl) (put_T rfl _) ?_
  refine EvO.mv (.inl rfl) rfl (ev rfl) (put_T rfl _) ?_
  refine EvO.addZ (z := (m + (n : Nat))) rfl (ev rfl) (ev rfl) (by (try simp only [List.length_reverse,List.length_cons,List.length_nil,List.length_append,List.length_map,List.length_set]); first | (rw [wrap_i64 (by omega) (by omega)] <;> omega) | (rw [wrap_i32 (by omega) (by omega)] <;> omega)) (put_T rfl _) ?_
  refine EvO.mv (.inl rfl) rfl (ev rfl) (put_T rfl _) ?_
  refine EvO.subZ (z := (m + (n : Nat))) rfl (ev rfl) (ev rfl) (by (try simp only [List.length_reverse,List.length_cons,List.length_nil,List.length_append,List.length_map,List.length_set]); first | (rw [wrap_i64 (by omega) (by omega)] <;> omega) | (rw [wrap_i32 (by omega) (by omega)] <;> omega)) (put_T rfl _) ?_
  refine EvO.addZ (z := (m + (n : Nat) + 1)) rfl (ev rfl) (ev rfl) (by (try simp only [List.length_reverse,List.length_cons,List.length_nil,List.length_append,List.length_map,List.length_set]); first | (rw [wrap_i64 (by omega) (by omega)] <;> omega) | (rw [wrap_i32 (by omega) (by omega)] <;> omega)) (put_T rfl _) ?_
  refine EvO.mv (.inr rfl) rfl (ev rfl) (by dsimp only [Fr.put,List.set_cons_succ,List.set_cons_zero] <;> rfl) ?_
  refine EvO.nil ?_
  try subst hK
  try change EvC _ _ _ _ _ _
  try change EvC _ _ _ _ _ _
  repeat refine EvC.seq ?_
  try generalize hK : SeqQ _ _ _ _ = K
  refine EvC.reg ?_
  refine EvO.mv (.inl rfl) rfl (ev rfl) (put_T rfl _) ?_
  refine EvO.mv (.inl rfl) rfl (ev rfl) (put_T rfl _) ?_
  refine EvO.addZ (z := (m + (n : Nat) + 1)) rfl (ev rfl) (ev rfl) (by (try simp only [List.length_reverse,List.length_cons,List.length_nil,List.length_append,List.length_map,List.length_set]); first | (rw [wrap_i64 (by omega) (by omega)] <;> omega) | (rw [wrap_i32 (by omega) (by omega)] <;> omega)) (put_T rfl _) ?_
  refine EvO.mv (.inr rfl) rfl (ev rfl) (by dsimp only [Fr.put,List.set_cons_succ,List.set_cons_zero] <;> rfl) ?_
  refine EvO.nil ?_
  try subst hK
  try change EvC _ _ _ _ _ _
  refine EvC.ret ⟨fun i h => (by cases h),_,_,rfl,leave_ro (by simp) hSb hH (rfl),?_⟩
  exact ⟨(m + (n : Nat) + 1).toNat,by rw [Int.toNat_of_nonneg (by omega)]; rfl,by omega⟩
 ·refine EvC.skip ?_
  try change EvC _ _ _ _ _ _
  try change EvC _ _ _ _ _ _
  repeat refine EvC.seq ?_
  try generalize hK : SeqQ _ _ _ _ = K
  refine EvC.reg ?_
  refine EvO.mv (.inl rfl) rfl (ev rfl) (put_T rfl _) ?_
  refine EvO.mv (.inl rfl) rfl (ev rfl) (put_T rfl _) ?_
  refine EvO.addZ (z := m) rfl (ev rfl) (ev rfl) (by (try simp only [List.length_reverse,List.length_cons,List.length_nil,List.length_append,List.length_map,List.length_set]); first | (rw [wrap_i64 (by omega) (by omega)] <;> omega) | (rw [wrap_i32 (by omega) (by omega)] <;> omega)) (put_T rfl _) ?_
  refine EvO.mv (.inr rfl) rfl (ev rfl) (by dsimp only [Fr.put,List.set_cons_succ,List.set_cons_zero] <;> rfl) ?_
  refine EvO.nil ?_
  try subst hK
  try change EvC _ _ _ _ _ _
  refine EvC.ret ⟨fun i h => (by cases h),_,_,rfl,leave_ro (by simp) hSb hH (rfl),?_⟩
  exact ⟨m.toNat,by rw [Int.toNat_of_nonneg (by omega)]; rfl,by omega⟩
theorem few_of {p : Pg} (hR : RightQ p) : ∀ i ∈ p.code,i.rs.length <= 557057 := by
 intro i hi
 obtain ⟨pc,hpc⟩ := List.getElem?_of_mem hi
 have h := hR.sh pc i hpc
 unfold shapedS at h
 split at h
 ·simp only [Bool.and_eq_true] at h
  have h2 := h.2.2
  unfold rightS at h2
  exact makeIs_few (@of_decide_eq_true _ (Classical.propDecidable _) h2)
 ·simp only [Bool.and_eq_true,List.isEmpty_iff] at h
  rw [h.1]; simp
theorem turned_okR {N : Nat} {S st : St} {H : List Ent} {cd sd : D} {C : List PIns} {starts : List Int} (hH : Has N S st H) {a b : Nat} (h1 : H[a]? = some (.lst cd 4 (C.map insC))) (h2 : H[b]? = some (.lst sd 1 (starts.map intC))) (h3 : ∀ x ∈ C,pgE x ∈ H /\ x.rs.length <= 1048576) (hc : C.length <= 400) (hs : starts.length <= 8) : Pg.okR st ⟨cd,C,sd,starts⟩ :=
 okR_of hH h1 h2 h3 (by show C.length <= _; omega) (by show starts.length <= _; omega)
theorem mem_set_or {α : Type} {l : List α} {k : Nat} {a x : α} (h : x ∈ l.set k a) : x ∈ l \/ x = a := by
 rcases List.mem_or_eq_of_mem_set h with h | h
 ·exact .inl h
 ·exact .inr h
theorem law {s0 : St} (x : D) (ps : List (List UInt8)) (hx : SlD x 1 (ps.map strC)) (hpl : ps.length <= 1048576 /\ ∀ b ∈ ps,b.length <= 1048576) (a f t : Int) : Ev pv 3 [x, .int .i64 a, .int .i64 f, .int .i64 t] s0 (.bool true) s0 := by
 refine Ev.mk1 rfl fi3 rfl rfl rfl ?_
 dsimp only [List.cons_append,List.nil_append,List.length,Nat.reduceSub,Nat.reduceAdd,List.replicate_succ,List.replicate_zero]
 have hSb : (enterSt .ro s0).bs = s0.bs := rfl
 have hF : (enterSt .ro s0).flr <= s0.bs.length := Nat.le_refl _
 have hH : Has s0.bs.length (enterSt .ro s0) (enterSt .ro s0) [] := Has.start (Nat.le_refl _) (Nat.le_refl _)
 generalize enterSt .ro s0 = S at *
 have hxa := hx.arg s0.bs.length S
 try change EvC _ _ _ _ _ _
 repeat refine EvC.seq ?_
 try generalize hK : SeqQ _ _ _ _ = K
 refine EvC.reg ?_
 refine EvO.mv (.inr rfl) rfl (ev rfl) (by dsimp only [Fr.put,List.set_cons_succ,List.set_cons_zero] <;> rfl) ?_
 refine EvO.nil ?_
 try subst hK
 try change EvC _ _ _ _ _ _
 try change EvC _ _ _ _ _ _
 repeat refine EvC.seq ?_
 try generalize hK : SeqQ _ _ _ _ = K
 refine EvC.reg ?_
 refine EvO.mv (.inr rfl) rfl (ev rfl) (by dsimp only [Fr.put,List.set_cons_succ,List.set_cons_zero] <;> rfl) ?_
 refine EvO.nil ?_
 try subst hK
 try change EvC _ _ _ _ _ _
 try change EvC _ _ _ _ _ _
 repeat refine EvC.seq ?_
 try generalize hK : SeqQ _ _ _ _ = K
 refine EvC.reg ?_
 refine EvO.mv (.inr rfl) rfl (ev rfl) (by dsimp only [Fr.put,List.set_cons_succ,List.set_cons_zero] <;> rfl) ?_
 refine EvO.nil ?_
 try subst hK
 try change EvC _ _ _ _ _ _
 have hH : Has s0.bs.length S S (.lst .nul 1 (([] : List (List Nod)).map partC) :: []) := hH.nulE 1
 try change EvC _ _ _ _ _ _
 repeat refine EvC.seq ?_
 refine EvC.block ?_
 refine EvC.loop (fun mm fr st => ∃ (i : Nat) (ld : D) (parts : List (List Nod)),fr.clean = ⟨71, [x, .int .i64 a, .int .i64 f, .int .i64 t,ixF_CheckTurnedLaw fr 4,ixF_CheckTurnedLaw fr 5,ixF_CheckTurnedLaw fr 6,ixF_CheckTurnedLaw fr 7, .bool false,ld, .int .i64 (i : Nat),ixF_CheckTurnedLaw fr 11,ixF_CheckTurnedLaw fr 12,ixF_CheckTurnedLaw fr 13,ixF_CheckTurnedLaw fr 14,ixF_CheckTurnedLaw fr 15,ixF_CheckTurnedLaw fr 16,ixF_CheckTurnedLaw fr 17,ixF_CheckTurnedLaw fr 18,ixF_CheckTurnedLaw fr 19,ixF_CheckTurnedLaw fr 20,ixF_CheckTurnedLaw fr 21,ixF_CheckTurnedLaw fr 22,ixF_CheckTurnedLaw fr 23,ixF_CheckTurnedLaw fr 24,ixF_CheckTurnedLaw fr 25,ixF_CheckTurnedLaw fr 26,ixF_CheckTurnedLaw fr 27,ixF_CheckTurnedLaw fr 28,ixF_CheckTurnedLaw fr 29,ixF_CheckTurnedLaw fr 30,ixF_CheckTurnedLaw fr 31,ixF_CheckTurnedLaw fr 32,ixF_CheckTurnedLaw fr 33,ixF_CheckTurnedLaw fr 34,ixF_CheckTurnedLaw fr 35,ixF_CheckTurnedLaw fr 36,ixF_CheckTurnedLaw fr 37,ixF_CheckTurnedLaw fr 38,ixF_CheckTurnedLaw fr 39,ixF_CheckTurnedLaw fr 40,ixF_CheckTurnedLaw fr 41,ixF_CheckTurnedLaw fr 42,ixF_CheckTurnedLaw fr 43,ixF_CheckTurnedLaw fr 44,ixF_CheckTurnedLaw fr 45,ixF_CheckTurnedLaw fr 46,ixF_CheckTurnedLaw fr 47,ixF_CheckTurnedLaw fr 48,ixF_CheckTurnedLaw fr 49,ixF_CheckTurnedLaw fr 50,ixF_CheckTurnedLaw fr 51,ixF_CheckTurnedLaw fr 52,ixF_CheckTurnedLaw fr 53,ixF_CheckTurnedLaw fr 54,ixF_CheckTurnedLaw fr 55,ixF_CheckTurnedLaw fr 56,ixF_CheckTurnedLaw fr 57,ixF_CheckTurnedLaw fr 58,ixF_CheckTurnedLaw fr 59,ixF_CheckTurnedLaw fr 60,ixF_CheckTurnedLaw fr 61,ixF_CheckTurnedLaw fr 62,ixF_CheckTurnedLaw fr 63,ixF_CheckTurnedLaw fr 64,ixF_CheckTurnedLaw fr 65,ixF_CheckTurnedLaw fr 66,ixF_CheckTurnedLaw fr 67,ixF_CheckTurnedLaw fr 68,ixF_CheckTurnedLaw fr 69,ixF_CheckTurnedLaw fr 70], []⟩ /\ Has s0.bs.length S st [.lst ld 1 (parts.map partC)] /\ (i + mm = 5) /\ (∀ l ∈ parts,(∀ n ∈ l,NdV n) /\ l.length <= 500) /\ (parts.length <= i)) (5) ?_ ?_
 ·exact ⟨0, .nul, [],rfl,hH,by omega,fun l hl => (by cases hl),by simp⟩
 rintro mm fr st ⟨i,ld,parts,hfr,hH,hi,hp,hpl2⟩
 rw [hfr]
 clear hfr
 try generalize ixF_CheckTurnedLaw fr = ee
 clear fr
 try change EvC _ _ _ _ _ _
 try change EvC _ _ _ _ _ _
 repeat refine EvC.seq ?_
 refine EvC.cutL 25 (.bool (decide (((i : Nat) : Int) < ((ps.length : Nat) : Int)) && decide (((i : Nat) : Int) < 5))) [18,19,20,21,22,23,24] ?_ (fun ff tmp => ?_)
 ·refine EvO.mv (.inl rfl) rfl (ev rfl) (by dsimp only [Fr.put,List.set_cons_succ,List.set_cons_zero] <;> rfl) ?_
  refine EvO.mv (.inl rfl) rfl (ev rfl) (by dsimp only [Fr.put,List.set_cons_succ,List.set_cons_zero] <;> rfl) ?_
  first | refine EvO.rlen rfl (ev rfl) (Arg.rows (by assumption) hH) rfl (by dsimp only [Fr.put,List.set_cons_succ,List.set_cons_zero] <;> rfl) ?_ | refine EvO.rlen rfl (ev rfl) (hH.rows (by first | exact at0 | exact at1 | exact at2 | exact at3 | exact at4 | exact at5 | exact at6 | exact at7)) rfl (by dsimp only [Fr.put,List.set_cons_succ,List.set_cons_zero] <;> rfl) ?_ | refine EvO.slen rfl rfl rfl (by dsimp only [Fr.put,List.set_cons_succ,List.set_cons_zero] <;> rfl) ?_ | refine EvO.go rfl rfl rfl (by dsimp only [Fr.put,List.set_cons_succ,List.set_cons_zero] <;> rfl) ?_
  try simp only [List.length_map,List.length_append,List.length_cons,List.length_nil,List.length_set,List.length_replicate,List.length_reverse]
  refine EvO.go rfl rfl rfl (by dsimp only [Fr.put,List.set_cons_succ,List.set_cons_zero] <;> rfl) ?_
  refine EvO.mv (.inl rfl) rfl (ev rfl) (by dsimp only [Fr.put,List.set_cons_succ,List.set_cons_zero] <;> rfl) ?_
  refine EvO.two 22 rfl (fun hg4 => ?_) (fun hg4 => ?_)
  ·refine EvO.mv (.inl rfl) (wantD_is rfl rfl rfl hg4) (ev rfl) (by dsimp only [Fr.put,List.set_cons_succ,List.set_cons_zero] <;> rfl) ?_
   refine EvO.go (wantD_is rfl rfl rfl hg4) rfl rfl (by dsimp only [Fr.put,List.set_cons_succ,List.set_cons_zero] <;> rfl) ?_
   refine EvO.pickT rfl rfl hg4 (by dsimp only [Fr.put,List.set_cons_succ,List.set_cons_zero] <;> rfl) ?_
   refine EvO.nil (leafL ?_)
   try dsimp only [setW,List.foldl_cons,List.foldl_nil,nth,List.set_cons_zero,List.set_cons_succ]
   try dsimp only [Fr.putO,Fr.put,Fr.clean,Fr.ev,Fr.get,nth,Go.V.look,List.set_cons_succ,List.set_cons_zero,ofVal_int,ofVal_bool,ofVal_str,ofVal_nul,ofVal_pnil,ofVal_nilfn,ofVal_nilif,List.length,List.cons_append,List.nil_append,List.append_nil,Nat.reduceSub,Nat.reduceAdd,List.map,List.map_cons,List.map_nil]
   all_goals (first | rfl | (simp [hg4]; done) | (simp_all; done) | (simp [hg4]; omega) | (simp_all; omega))
  ·refine EvO.skip (wantD_not rfl rfl rfl hg4) (by dsimp only [Fr.put,List.set_cons_succ,List.set_cons_zero] <;> rfl) ?_
   refine EvO.skip (wantD_not rfl rfl rfl hg4) (by dsimp only [Fr.put,List.set_cons_succ,List.set_cons_zero] <;> rfl) ?_
   refine EvO.pickF rfl rfl hg4 (by dsimp only [Fr.put,List.set_cons_succ,List.set_cons_zero] <;> rfl) ?_
   refine EvO.nil (leafL ?_)
   try dsimp only [setW,List.foldl_cons,List.foldl_nil,nth,List.set_cons_zero,List.set_cons_succ]
   try dsimp only [Fr.putO,Fr.put,Fr.clean,Fr.ev,Fr.get,nth,Go.V.look,List.set_cons_succ,List.set_cons_zero,ofVal_int,ofVal_bool,ofVal_str,ofVal_nul,ofVal_pnil,ofVal_nilfn,ofVal_nilif,List.length,List.cons_append,List.nil_append,List.append_nil,Nat.reduceSub,Nat.reduceAdd,List.map,List.map_cons,List.map_nil]
   all_goals (first | rfl | (simp [hg4]; done) | (simp_all; done) | (simp [hg4]; omega) | (simp_all; omega))
 try dsimp only [setW,List.foldl_cons,List.foldl_nil,nth,List.set_cons_zero,List.set_cons_succ]
 generalize ff 18 = e18
 generalize ff 19 = e19
 generalize ff 20 = e20
 generalize ff 21 = e21
 generalize ff 22 = e22
 generalize ff 23 = e23
 generalize ff 24 = e24
 try dsimp only [Fr.putO,Fr.put,Fr.clean,Fr.ev,Fr.get,nth,Go.V.look,List.set_cons_succ,List.set_cons_zero,ofVal_int,ofVal_bool,ofVal_str,ofVal_nul,ofVal_pnil,ofVal_nilfn,ofVal_nilif,List.length,List.cons_append,List.nil_append,List.append_nil,Nat.reduceSub,Nat.reduceAdd,List.map,List.map_cons,List.map_nil]
 try change EvC _ _ _ _ _ _
 by_cases hlt : i < ps.length /\ i < 5
 ·obtain ⟨b,hbb⟩ : ∃ b,ps[i]? = some b := ⟨ps[i]'hlt.1,List.getElem?_eq_getElem _⟩
  have hr1 := str_get hbb
  have hbl := hpl.2 b (List.mem_of_getElem? hbb)
  have hc2 : (decide (((i : Nat) : Int) < ((ps.length : Nat) : Int)) && decide (((i : Nat) : Int) < 5)) = true := by rw [Bool.and_eq_true,decide_eq_true_eq,decide_eq_true_eq]; omega
  first | (rw [hc2] at htmp) | (rw [hc2])
  try change EvC _ _ _ _ _ _
  repeat refine EvC.seq ?_
  refine EvC.cond (v := true) (by first | rfl | assumption) (fun _ => ?_) (fun h => by cases h)
  try change EvC _ _ _ _ _ _
  refine EvC.skip ?_
  try change EvC _ _ _ _ _ _
  try change EvC _ _ _ _ _ _
  repeat refine EvC.seq ?_
  refine EvC.block ?_
  obtain ⟨_,hev,l,e,w,rfl,hv,hll⟩ := parse_ev (s0 := st) hbl
  try change EvC _ _ _ _ _ _
  repeat refine EvC.seq ?_
  try generalize hK : SeqQ _ _ _ _ = K
  refine EvC.reg ?_
  refine EvO.mv (.inl rfl) rfl (ev rfl) (by dsimp only [Fr.put,List.set_cons_succ,List.set_cons_zero] <;> rfl) ?_
  refine EvO.mv (.inl rfl) rfl (ev rfl) (by dsimp only [Fr.put,List.set_cons_succ,List.set_cons_zero] <;> rfl) ?_
  first | refine EvO.ridx rfl (ev rfl) (ev rfl) (Arg.rows (by assumption) hH) rfl rfl (by assumption) (fun _ => by dsimp only [Fr.put,List.set_cons_succ,List.set_cons_zero] <;> rfl) (fun p31 hp31 => ?_) | refine EvO.oidx hH rfl (ev rfl) (ev rfl) (by first | exact at0 | exact at1 | exact at2 | exact at3 | exact at4 | exact at5 | exact at6 | exact at7) rfl rfl (by first | exact lt_get (by assumption) | omega | (simp only [List.length_map,List.length_append,List.length_cons,List.length_nil,List.length_set,List.length_replicate] <;> omega)) (fun _ => by dsimp only [Fr.put,List.set_cons_succ,List.set_cons_zero] <;> rfl) (fun p31 hp31 => ?_)
  first | refine EvO.rload rfl (ev rfl) (by assumption) rfl (by dsimp only [Fr.put,List.set_cons_succ,List.set_cons_zero] <;> rfl) ?_ | refine EvO.oload hH rfl (ev rfl) (by assumption) (by first | exact at0 | exact at1 | exact at2 | exact at3 | exact at4 | exact at5 | exact at6 | exact at7) (by assumption) rfl (by dsimp only [Fr.put,List.set_cons_succ,List.set_cons_zero] <;> rfl) ?_ | refine EvO.hload hH rfl (ev rfl) (by first | exact at0 | exact at1 | exact at2 | exact at3 | exact at4 | exact at5 | exact at6 | exact at7) rfl (by dsimp only [Fr.put,List.set_cons_succ,List.set_cons_zero] <;> rfl) ?_
  refine EvO.hcall rfl rfl (hev) (by dsimp only [Fr.put,List.set_cons_succ,List.set_cons_zero] <;> rfl) ?_
  refine EvO.mv (.inl rfl) rfl (ev rfl) (by dsimp only [Fr.put,List.set_cons_succ,List.set_cons_zero] <;> rfl) ?_
  refine EvO.go rfl rfl rfl (by dsimp only [Fr.put,List.set_cons_succ,List.set_cons_zero] <;> rfl) ?_
  refine EvO.go rfl rfl rfl (by dsimp only [Fr.put,List.set_cons_succ,List.set_cons_zero] <;> rfl) ?_
  refine EvO.go rfl rfl rfl (by dsimp only [Fr.put,List.set_cons_succ,List.set_cons_zero] <;> rfl) ?_
  refine EvO.mv (.inr rfl) rfl (ev rfl) (by dsimp only [Fr.put,List.set_cons_succ,List.set_cons_zero] <;> rfl) ?_
  refine EvO.mv (.inr rfl) rfl (ev rfl) (by dsimp only [Fr.put,List.set_cons_succ,List.set_cons_zero] <;> rfl) ?_
  refine EvO.mv (.inr rfl) rfl (ev rfl) (by dsimp only [Fr.put,List.set_cons_succ,List.set_cons_zero] <;> rfl) ?_
  refine EvO.nil ?_
  try subst hK
  try change EvC _ _ _ _ _ _
  try change EvC _ _ _ _ _ _
  repeat refine EvC.seq ?_
  try generalize hK : SeqQ _ _ _ _ = K
  refine EvC.reg ?_
  refine EvO.mv (.inl rfl) rfl (ev rfl) (by dsimp only [Fr.put,List.set_cons_succ,List.set_cons_zero] <;> rfl) ?_
  refine EvO.go rfl rfl rfl (by dsimp only [Fr.put,List.set_cons_succ,List.set_cons_zero] <;> rfl) ?_
  refine EvO.nil ?_
  try subst hK
  try change EvC _ _ _ _ _ _
  try change EvC _ _ _ _ _ _
  repeat refine EvC.seq ?_
  refine EvC.cond (by first | rfl | assumption) (fun he => ?_) (fun he => ?_) <;> try simp only [decide_eq_true_eq,decide_eq_false_iff_not,beq_iff_eq,beq_eq_false_iff_ne,bne_iff_ne,bne_eq_false_iff_eq,ne_eq,Bool.not_eq_true',Bool.not_eq_false',Bool.not_eq_true,Bool.not_eq_false] at he
  ·try change EvC _ _ _ _ _ _
   repeat refine EvC.seq ?_
   try generalize hK : SeqQ _ _ _ _ = K
   refine EvC.reg ?_
   refine EvO.mv (.inl rfl) rfl (ev rfl) (by dsimp only [Fr.put,List.set_cons_succ,List.set_cons_zero] <;> rfl) ?_
   refine EvO.mv (.inl rfl) rfl (ev rfl) (by dsimp only [Fr.put,List.set_cons_succ,List.set_cons_zero] <;> rfl) ?_
   refine EvO.hlist (s := 1) (vs := [_]) hH rfl rfl rfl rfl rfl (Nat.le_of_ble_eq_true rfl) ⟨rfl,(ev rfl),trivial⟩ rfl (by intro v hv; first | (cases hv; done) | (simp only [List.mem_cons,List.not_mem_nil,or_false] at hv; rcases hv with rfl <;> exact ⟨rfl,rfl⟩)) (fun _ => by dsimp only [Fr.put,List.set_cons_succ,List.set_cons_zero] <;> rfl) (fun k41 st hk41 hH => ?_)
   try dsimp only [List.set_cons_zero,List.set_cons_succ,List.cons_append,List.nil_append,setMany,List.map_cons,List.map_nil,D.cells,Nat.reduceAdd,List.nil_append,partC,compD,Pg.d,Pg.cs,pgV,insC,intC,rangeC] at hH
   refine EvO.happend (s := 1) hH rfl (ev rfl) (ev rfl) (by first | exact at0 | exact at1 | exact at2 | exact at3 | exact at4 | exact at5 | exact at6 | exact at7) (by first | exact hH.rows (by first | exact at0 | exact at1 | exact at2 | exact at3 | exact at4 | exact at5 | exact at6 | exact at7) | exact Arg.rows (by assumption) hH) rfl rfl rfl rfl rfl rfl rfl ⟨(Nat.le_of_ble_eq_true rfl),(Nat.le_of_ble_eq_true rfl)⟩ (fun _ => by dsimp only [Fr.put,List.set_cons_succ,List.set_cons_zero] <;> rfl) (by first | omega | (simp only [List.length_append,List.length_cons,List.length_nil,List.length_map,List.length_replicate,List.length_set,List.length_reverse] <;> omega)) (by first | exact .inl hF | exact .inr rfl | exact .inr (by assumption)) (fun x42 st hH => ?_)
   try dsimp only [List.set_cons_zero,List.set_cons_succ,List.cons_append,List.nil_append,setMany,List.map_cons,List.map_nil,D.cells,Nat.reduceAdd,List.nil_append,partC,compD,Pg.d,Pg.cs,pgV,insC,intC,rangeC] at hH
   refine EvO.mv (.inr rfl) rfl (ev rfl) (by dsimp only [Fr.put,List.set_cons_succ,List.set_cons_zero] <;> rfl) ?_
   refine EvO.nil ?_
   try subst hK
   try change EvC _ _ _ _ _ _
   have hH := hH.drop 1
   try change EvC _ _ _ _ _ _
   repeat refine EvC.seq ?_
   try generalize hK : SeqQ _ _ _ _ = K
   refine EvC.reg ?_
   refine EvO.mv (.inl rfl) rfl (ev rfl) (by dsimp only [Fr.put,List.set_cons_succ,List.set_cons_zero] <;> rfl) ?_
   first | refine EvO.addN rfl (ev rfl) (ev rfl) (by omega) (by dsimp only [Fr.put,List.set_cons_succ,List.set_cons_zero] <;> rfl) ?_ | refine EvO.addS64 rfl (ev rfl) (ev rfl) (by omega) (by omega) (by dsimp only [Fr.put,List.set_cons_succ,List.set_cons_zero] <;> rfl) ?_ | refine EvO.addS32 rfl (ev rfl) (ev rfl) (by omega) (by omega) (by dsimp only [Fr.put,List.set_cons_succ,List.set_cons_zero] <;> rfl) ?_ | refine EvO.go rfl rfl rfl (by dsimp only [Fr.put,List.set_cons_succ,List.set_cons_zero] <;> rfl) ?_
   refine EvO.mv (.inr rfl) rfl (ev rfl) (by dsimp only [Fr.put,List.set_cons_succ,List.set_cons_zero] <;> rfl) ?_
   refine EvO.nil ?_
   try subst hK
   try change EvC _ _ _ _ _ _
   refine ⟨mm - 1,by omega,⟨i + 1,x42,parts ++ [l],rfl,(by rw [List.map_append]; exact hH),by omega,?_,by rw [List.length_append]; simp only [List.length_cons,List.length_nil]; omega⟩⟩
   intro l' hl'
   rcases List.mem_append.1 hl' with hl' | hl'
   ·exact hp l' hl'
   ·simp only [List.mem_cons,List.not_mem_nil,or_false] at hl'; subst hl'; exact ⟨hv,hll⟩
  ·refine EvC.skip ?_
   try change EvC _ _ _ _ _ _
   try change EvC _ _ _ _ _ _
   repeat refine EvC.seq ?_
   try generalize hK : SeqQ _ _ _ _ = K
   refine EvC.reg ?_
   refine EvO.mv (.inl rfl) rfl (ev rfl) (by dsimp only [Fr.put,List.set_cons_succ,List.set_cons_zero] <;> rfl) ?_
   first | refine EvO.addN rfl (ev rfl) (ev rfl) (by omega) (by dsimp only [Fr.put,List.set_cons_succ,List.set_cons_zero] <;> rfl) ?_ | refine EvO.addS64 rfl (ev rfl) (ev rfl) (by omega) (by omega) (by dsimp only [Fr.put,List.set_cons_succ,List.set_cons_zero] <;> rfl) ?_ | refine EvO.addS32 rfl (ev rfl) (ev rfl) (by omega) (by omega) (by dsimp only [Fr.put,List.set_cons_succ,List.set_cons_zero] <;> rfl) ?_ | refine EvO.go rfl rfl rfl (by dsimp only [Fr.put,List.set_cons_succ,List.set_cons_zero] <;> rfl) ?_
   refine EvO.mv (.inr rfl) rfl (ev rfl) (by dsimp only [Fr.put,List.set_cons_succ,List.set_cons_zero] <;> rfl) ?_
   refine EvO.nil ?_
   try subst hK
   try change EvC _ _ _ _ _ _
   exact ⟨mm - 1,by omega,⟨i + 1,ld,parts,rfl,hH,by omega,hp,by omega⟩⟩
 ·have hc2 : (decide (((i : Nat) : Int) < ((ps.length : Nat) : Int)) && decide (((i : Nat) : Int) < 5)) = false := by
   rw [Bool.and_eq_false_iff,decide_eq_false_iff_not,decide_eq_false_iff_not]; omega
  first | (rw [hc2] at htmp) | (rw [hc2])
  try change EvC _ _ _ _ _ _
  repeat refine EvC.seq ?_
  refine EvC.cond (v := false) (by first | rfl | assumption) (fun h => by cases h) (fun _ => ?_)
  try change EvC _ _ _ _ _ _
  try change EvC _ _ _ _ _ _
  refine EvC.exit ?_
  try change EvC _ _ _ _ _ _
  obtain ⟨hev,hok,hlen⟩ := comp_parts hp (by omega) (hH.rows at0)
  have hmade := fun h => made_right (parts := parts) (by omega) h hlen
  have hnil : parts = [] -> (compileS parts).code = [] := fun h => by rw [h]; rfl
  generalize compileS parts = R at *
  try change EvC _ _ _ _ _ _
  repeat refine EvC.seq ?_
  try generalize hK : SeqQ _ _ _ _ = K
  refine EvC.reg ?_
  refine EvO.mv (.inl rfl) rfl (ev rfl) (by dsimp only [Fr.put,List.set_cons_succ,List.set_cons_zero] <;> rfl) ?_
  refine EvO.hcall rfl rfl (hev) (by dsimp only [Fr.put,List.set_cons_succ,List.set_cons_zero] <;> rfl) ?_
  refine EvO.mv (.inl rfl) rfl (ev rfl) (by dsimp only [Fr.put,List.set_cons_succ,List.set_cons_zero] <;> rfl) ?_
  refine EvO.go rfl rfl rfl (by dsimp only [Fr.put,List.set_cons_succ,List.set_cons_zero] <;> rfl) ?_
  refine EvO.go rfl rfl rfl (by dsimp only [Fr.put,List.set_cons_succ,List.set_cons_zero] <;> rfl) ?_
  refine EvO.go rfl rfl rfl (by dsimp only [Fr.put,List.set_cons_succ,List.set_cons_zero] <;> rfl) ?_
  refine EvO.halloc hH rfl rfl (fun _ => by dsimp only [Fr.put,List.set_cons_succ,List.set_cons_zero] <;> rfl) (fun k14 st hk14 hH => ?_)
  try dsimp only [List.set_cons_zero,List.set_cons_succ,List.cons_append,List.nil_append,setMany,List.map_cons,List.map_nil,D.cells,Nat.reduceAdd,List.nil_append,partC,compD,Pg.d,Pg.cs,pgV,insC,intC,rangeC] at hH
  refine EvO.hstoreA hH rfl (ev rfl) (ev rfl) (by first | rfl | exact (SlD.cells (by assumption)).1 | exact hH.ocells (by first | exact at0 | exact at1 | exact at2 | exact at3 | exact at4 | exact at5 | exact at6 | exact at7) | exact hH.dcells (by first | exact at0 | exact at1 | exact at2 | exact at3 | exact at4 | exact at5 | exact at6 | exact at7) | assumption) (by exact rfl) (by first | exact at0 | exact at1 | exact at2 | exact at3 | exact at4 | exact at5 | exact at6 | exact at7) (by exact rfl) (by first | exact .inl hF | exact .inr rfl | exact .inr (by assumption)) (fun st hH => ?_)
  try dsimp only [List.set_cons_zero,List.set_cons_succ,List.cons_append,List.nil_append,setMany,List.map_cons,List.map_nil,D.cells,Nat.reduceAdd,List.nil_append,partC,compD,Pg.d,Pg.cs,pgV,insC,intC,rangeC] at hH
  refine EvO.mv (.inr rfl) rfl (ev rfl) (by dsimp only [Fr.put,List.set_cons_succ,List.set_cons_zero] <;> rfl) ?_
  refine EvO.mv (.inr rfl) rfl (ev rfl) (by dsimp only [Fr.put,List.set_cons_succ,List.set_cons_zero] <;> rfl) ?_
  refine EvO.nil ?_
  try subst hK
  try change EvC _ _ _ _ _ _
  have hcd : Arg s0.bs.length S 4 (.sl ((R.code.map insC).map (elD 4))) (R.code.map insC) := hok.c.arg s0.bs.length S
  have hsd : Arg s0.bs.length S 1 (intsV R.starts) (R.starts.map intC) := hok.s.arg s0.bs.length S
  try change EvC _ _ _ _ _ _
  repeat refine EvC.seq ?_
  refine EvC.cutL 56 (.bool ((R.e != 0) || (((R.code.length : Nat) : Int) == 0))) [49,50,51,52,53,54,55] ?_ (fun ff tmp => ?_)
  ·refine EvO.mv (.inl rfl) rfl (ev rfl) (by dsimp only [Fr.put,List.set_cons_succ,List.set_cons_zero] <;> rfl) ?_
   refine EvO.go rfl rfl rfl (by dsimp only [Fr.put,List.set_cons_succ,List.set_cons_zero] <;> rfl) ?_
   refine EvO.mv (.inl rfl) rfl (ev rfl) (by dsimp only [Fr.put,List.set_cons_succ,List.set_cons_zero] <;> rfl) ?_
   refine EvO.two 51 rfl (fun hg2 => ?_) (fun hg2 => ?_)
   ·refine EvO.skip (wantD_not rfl rfl rfl hg2) (by dsimp only [Fr.put,List.set_cons_succ,List.set_cons_zero] <;> rfl) ?_
    refine EvO.skip (wantD_not rfl rfl rfl hg2) (by dsimp only [Fr.put,List.set_cons_succ,List.set_cons_zero] <;> rfl) ?_
    refine EvO.skip (wantD_not rfl rfl rfl hg2) (by dsimp only [Fr.put,List.set_cons_succ,List.set_cons_zero] <;> rfl) ?_
    refine EvO.skip (wantD_not rfl rfl rfl hg2) (by dsimp only [Fr.put,List.set_cons_succ,List.set_cons_zero] <;> rfl) ?_
    refine EvO.pickT rfl rfl hg2 (by dsimp only [Fr.put,List.set_cons_succ,List.set_cons_zero] <;> rfl) ?_
    refine EvO.nil (leafL ?_)
    try dsimp only [setW,List.foldl_cons,List.foldl_nil,nth,List.set_cons_zero,List.set_cons_succ]
    try dsimp only [Fr.putO,Fr.put,Fr.clean,Fr.ev,Fr.get,nth,Go.V.look,List.set_cons_succ,List.set_cons_zero,ofVal_int,ofVal_bool,ofVal_str,ofVal_nul,ofVal_pnil,ofVal_nilfn,ofVal_nilif,List.length,List.cons_append,List.nil_append,List.append_nil,Nat.reduceSub,Nat.reduceAdd,List.map,List.map_cons,List.map_nil]
    all_goals (first | rfl | (simp [hg2]; done) | (simp_all; done) | (simp [hg2]; omega) | (simp_all; omega))
   ·refine EvO.pfield (fo := 0) (m := 0) (o := 0) (wantD_is rfl rfl rfl hg2) (ev rfl) rfl rfl rfl (by dsimp only [Fr.put,List.set_cons_succ,List.set_cons_zero] <;> rfl) ?_
    first | refine EvO.hload hH (wantD_is rfl rfl rfl hg2) (ev rfl) (by first | exact at0 | exact at1 | exact at2 | exact at3 | exact at4 | exact at5 | exact at6 | exact at7) rfl (by dsimp only [Fr.put,List.set_cons_succ,List.set_cons_zero] <;> rfl) ?_ | refine EvO.rload (wantD_is rfl rfl rfl hg2) (ev rfl) (by assumption) rfl (by dsimp only [Fr.put,List.set_cons_succ,List.set_cons_zero] <;> rfl) ?_ | refine EvO.oload hH (wantD_is rfl rfl rfl hg2) (ev rfl) (by assumption) (by first | exact at0 | exact at1 | exact at2 | exact at3 | exact at4 | exact at5 | exact at6 | exact at7) (by assumption) rfl (by dsimp only [Fr.put,List.set_cons_succ,List.set_cons_zero] <;> rfl) ?_
    first | refine EvO.rlen (wantD_is rfl rfl rfl hg2) (ev rfl) (Arg.rows (by assumption) hH) rfl (by dsimp only [Fr.put,List.set_cons_succ,List.set_cons_zero] <;> rfl) ?_ | refine EvO.rlen (wantD_is rfl rfl rfl hg2) (ev rfl) (hH.rows (by first | exact at0 | exact at1 | exact at2 | exact at3 | exact at4 | exact at5 | exact at6 | exact at7)) rfl (by dsimp only [Fr.put,List.set_cons_succ,List.set_cons_zero] <;> rfl) ?_ | refine EvO.slen (wantD_is rfl rfl rfl hg2) rfl rfl (by dsimp only [Fr.put,List.set_cons_succ,List.set_cons_zero] <;> rfl) ?_ | refine EvO.go (wantD_is rfl rfl rfl hg2) rfl rfl (by dsimp only [Fr.put,List.set_cons_succ,List.set_cons_zero] <;> rfl) ?_
    try simp only [List.length_map,List.length_append,List.length_cons,List.length_nil,List.length_set,List.length_replicate,List.length_reverse]
    refine EvO.go (wantD_is rfl rfl rfl hg2) rfl rfl (by dsimp only [Fr.put,List.set_cons_succ,List.set_cons_zero] <;> rfl) ?_
    refine EvO.pickF rfl rfl hg2 (by dsimp only [Fr.put,List.set_cons_succ,List.set_cons_zero] <;> rfl) ?_
    refine EvO.nil (leafL ?_)
    try dsimp only [setW,List.foldl_cons,List.foldl_nil,nth,List.set_cons_zero,List.set_cons_succ]
    try dsimp only [Fr.putO,Fr.put,Fr.clean,Fr.ev,Fr.get,nth,Go.V.look,List.set_cons_succ,List.set_cons_zero,ofVal_int,ofVal_bool,ofVal_str,ofVal_nul,ofVal_pnil,ofVal_nilfn,ofVal_nilif,List.length,List.cons_append,List.nil_append,List.append_nil,Nat.reduceSub,Nat.reduceAdd,List.map,List.map_cons,List.map_nil]
    all_goals (first | rfl | (simp [hg2]; done) | (simp_all; done) | (simp [hg2]; omega) | (simp_all; omega))
  try dsimp only [setW,List.foldl_cons,List.foldl_nil,nth,List.set_cons_zero,List.set_cons_succ]
  generalize ff 49 = e49
  generalize ff 50 = e50
  generalize ff 51 = e51
  generalize ff 52 = e52
  generalize ff 53 = e53
  generalize ff 54 = e54
  generalize ff 55 = e55
  try dsimp only [Fr.putO,Fr.put,Fr.clean,Fr.ev,Fr.get,nth,Go.V.look,List.set_cons_succ,List.set_cons_zero,ofVal_int,ofVal_bool,ofVal_str,ofVal_nul,ofVal_pnil,ofVal_nilfn,ofVal_nilif,List.length,List.cons_append,List.nil_append,List.append_nil,Nat.reduceSub,Nat.reduceAdd,List.map,List.map_cons,List.map_nil]
  try change EvC _ _ _ _ _ _
  by_cases hbad : R.e ≠ 0 \/ R.code.length = 0
  ·have hcc : ((R.e != 0) || (((R.code.length : Nat) : Int) == 0)) = true := by
    rcases hbad with h | h
    ·simp [h]
    ·simp [h]
   first | (rw [hcc] at htmp) | (rw [hcc])
   try change EvC _ _ _ _ _ _
   repeat refine EvC.seq ?_
   refine EvC.cond (v := true) (by first | rfl | assumption) (fun _ => ?_) (fun h => by cases h)
   try change EvC _ _ _ _ _ _
   try change EvC _ _ _ _ _ _
   repeat refine EvC.seq ?_
   try generalize hK : SeqQ _ _ _ _ = K
   refine EvC.reg ?_
   refine EvO.hcall rfl rfl (Ev.prim rfl rfl) (by dsimp only [Fr.put,List.set_cons_succ,List.set_cons_zero] <;> rfl) ?_
   refine EvO.mv (.inr rfl) rfl (ev rfl) (by dsimp only [Fr.put,List.set_cons_succ,List.set_cons_zero] <;> rfl) ?_
   refine EvO.nil ?_
   try subst hK
   try change EvC _ _ _ _ _ _
   refine EvC.ret ⟨fun i h => (by cases h),_,rfl,leave_ro (by simp) hSb hH (rfl)⟩
  ·have hcc : ((R.e != 0) || (((R.code.length : Nat) : Int) == 0)) = false := by
    cases hq : ((R.e != 0) || (((R.code.length : Nat) : Int) == 0)) with
    | false => rfl
    | true =>
     refine absurd ?_ hbad
     rw [Bool.or_eq_true,bne_iff_ne,beq_iff_eq] at hq
     rcases hq with h | h
     ·exact .inl h
     ·exact .inr (by omega)
   first | (rw [hcc] at htmp) | (rw [hcc])
   try change EvC _ _ _ _ _ _
   repeat refine EvC.seq ?_
   refine EvC.cond (v := false) (by first | rfl | assumption) (fun h => by cases h) (fun _ => ?_)
   try change EvC _ _ _ _ _ _
   refine EvC.skip ?_
   try change EvC _ _ _ _ _ _
   have he : R.e = 0 := Classical.byContradiction fun h => hbad (.inl h)
   have hc0 : 0 < R.code.length := Nat.pos_of_ne_zero fun h => hbad (.inr h)
   obtain ⟨hR,hsl,_⟩ := hmade he
   have hs0 : 0 < R.starts.length := by
    rw [hsl]
    refine Nat.pos_of_ne_zero fun h => ?_
    rw [hnil (List.length_eq_zero_iff.1 h)] at hc0
    exact Nat.lt_irrefl 0 hc0
   have hfew := few_of hR
   have hcl4 := hR.cl
   have hs8 := hR.sl
   have hcp := fun {st : St} {H : List Ent} (hH : Has s0.bs.length S st H) => copyProgK_ev (p := pgV R.code R.starts) hF hok hcl4 hs8 hH
   have hk1 : (pgV R.code R.starts).code = R.code := rfl
   have hk2 : (pgV R.code R.starts).starts = R.starts := rfl
   rw [hk1] at hfew hcl4 hcp
   rw [hk2] at hs8 hcp
   unfold Pg.d Pg.cs pgV at hcp
   dsimp only at hcp
   clear hmade hnil hbad hR hk1 hk2
   try change EvC _ _ _ _ _ _
   repeat refine EvC.seq ?_
   try generalize hK : SeqQ _ _ _ _ = K
   refine EvC.reg ?_
   first | refine EvO.hloadS (m := 2) hH rfl (ev rfl) (by first | exact at0 | exact at1 | exact at2 | exact at3 | exact at4 | exact at5 | exact at6 | exact at7) (by dsimp only [List.drop_succ_cons,List.drop_zero,List.take_succ_cons,List.take_zero,partC,compD,Pg.d,Pg.cs,pgV,insC,intC,rangeC] <;> rfl) rfl rfl (by dsimp only [Fr.put,List.set_cons_succ,List.set_cons_zero] <;> rfl) ?_ | refine EvO.rload rfl (ev rfl) (by assumption) rfl (by dsimp only [Fr.put,List.set_cons_succ,List.set_cons_zero] <;> rfl) ?_ | refine EvO.oload hH rfl (ev rfl) (by assumption) (by first | exact at0 | exact at1 | exact at2 | exact at3 | exact at4 | exact at5 | exact at6 | exact at7) (by assumption) rfl (by dsimp only [Fr.put,List.set_cons_succ,List.set_cons_zero] <;> rfl) ?_
   obtain ⟨_,st,hev,q,rfl,hq1,hq2,hH⟩ := hcp hH
   have hH := Has.rot (.lst q.cd 4 (q.code.map insC) :: .lst q.sd 1 (q.starts.map intC) :: q.code.map pgE) [_] hH
   dsimp only [List.cons_append,List.nil_append] at hH
   refine EvO.hcall rfl rfl hev (by dsimp only [Fr.put,List.set_cons_succ,List.set_cons_zero] <;> rfl) ?_
   refine EvO.hstoreA hH rfl (ev rfl) (ev rfl) (by first | rfl | exact (SlD.cells (by assumption)).1 | exact hH.ocells (by first | exact at0 | exact at1 | exact at2 | exact at3 | exact at4 | exact at5 | exact at6 | exact at7) | exact hH.dcells (by first | exact at0 | exact at1 | exact at2 | exact at3 | exact at4 | exact at5 | exact at6 | exact at7) | assumption) (by exact rfl) (by first | exact at0 | exact at1 | exact at2 | exact at3 | exact at4 | exact at5 | exact at6 | exact at7) (by exact rfl) (by first | exact .inl hF | exact .inr rfl | exact .inr (by assumption)) (fun st hH => ?_)
   try dsimp only [List.set_cons_zero,List.set_cons_succ,List.cons_append,List.nil_append,setMany,List.map_cons,List.map_nil,D.cells,Nat.reduceAdd,List.nil_append,partC,compD,Pg.d,Pg.cs,pgV,insC,intC,rangeC] at hH
   refine EvO.nil ?_
   try subst hK
   try change EvC _ _ _ _ _ _
   obtain ⟨cd,C,sd,ss⟩ := q
   dsimp only at hq1 hq2 hH ⊢
   subst hq1
   have hCl : C.length = R.code.length := by
    have := congrArg List.length hq2
    rw [List.length_map,List.length_map] at this; exact this
   have hCf : ∀ x ∈ C,x.rs.length <= 557057 := fun x hx => by
    have h1 : insT x ∈ R.code.map insT := by rw [<- hq2]; exact List.mem_map_of_mem hx
    obtain ⟨y,hy,hxy⟩ := List.mem_map.1 h1
    have h2 : y.rs = x.rs := congrArg (fun z => z.2.2.2) hxy
    rw [<- h2]; exact hfew y hy
   obtain ⟨n,hn⟩ : ∃ n,C.length = n + 1 := ⟨C.length - 1,by omega⟩
   obtain ⟨ns,hns⟩ : ∃ n,R.starts.length = n + 1 := ⟨R.starts.length - 1,by omega⟩
   obtain ⟨_,hevw,k,rfl,hk⟩ := withinN_ev (s0 := st) a n (by omega)
   obtain ⟨c,hck⟩ : ∃ c,C[k]? = some c := ⟨C[k]'(by omega),List.getElem?_eq_getElem _⟩
   have hr1 := ins_get hck
   have hcm := List.mem_of_getElem? hck
   clear hfew hcp
   try change EvC _ _ _ _ _ _
   repeat refine EvC.seq ?_
   try generalize hK : SeqQ _ _ _ _ = K
   refine EvC.reg ?_
   refine EvO.pfield (fo := 0) (m := 0) (o := 0) rfl (ev rfl) rfl rfl rfl (by dsimp only [Fr.put,List.set_cons_succ,List.set_cons_zero] <;> rfl) ?_
   first | refine EvO.hload hH rfl (ev rfl) (by first | exact at0 | exact at1 | exact at2 | exact at3 | exact at4 | exact at5 | exact at6 | exact at7) rfl (by dsimp only [Fr.put,List.set_cons_succ,List.set_cons_zero] <;> rfl) ?_ | refine EvO.rload rfl (ev rfl) (by assumption) rfl (by dsimp only [Fr.put,List.set_cons_succ,List.set_cons_zero] <;> rfl) ?_ | refine EvO.oload hH rfl (ev rfl) (by assumption) (by first | exact at0 | exact at1 | exact at2 | exact at3 | exact at4 | exact at5 | exact at6 | exact at7) (by assumption) rfl (by dsimp only [Fr.put,List.set_cons_succ,List.set_cons_zero] <;> rfl) ?_
   refine EvO.mv (.inl rfl) rfl (ev rfl) (by dsimp only [Fr.put,List.set_cons_succ,List.set_cons_zero] <;> rfl) ?_
   refine EvO.pfield (fo := 0) (m := 0) (o := 0) rfl (ev rfl) rfl rfl rfl (by dsimp only [Fr.put,List.set_cons_succ,List.set_cons_zero] <;> rfl) ?_
   first | refine EvO.hload hH rfl (ev rfl) (by first | exact at0 | exact at1 | exact at2 | exact at3 | exact at4 | exact at5 | exact at6 | exact at7) rfl (by dsimp only [Fr.put,List.set_cons_succ,List.set_cons_zero] <;> rfl) ?_ | refine EvO.rload rfl (ev rfl) (by assumption) rfl (by dsimp only [Fr.put,List.set_cons_succ,List.set_cons_zero] <;> rfl) ?_ | refine EvO.oload hH rfl (ev rfl) (by assumption) (by first | exact at0 | exact at1 | exact at2 | exact at3 | exact at4 | exact at5 | exact at6 | exact at7) (by assumption) rfl (by dsimp only [Fr.put,List.set_cons_succ,List.set_cons_zero] <;> rfl) ?_
   first | refine EvO.rlen rfl (ev rfl) (Arg.rows (by assumption) hH) rfl (by dsimp only [Fr.put,List.set_cons_succ,List.set_cons_zero] <;> rfl) ?_ | refine EvO.rlen rfl (ev rfl) (hH.rows (by first | exact at0 | exact at1 | exact at2 | exact at3 | exact at4 | exact at5 | exact at6 | exact at7)) rfl (by dsimp only [Fr.put,List.set_cons_succ,List.set_cons_zero] <;> rfl) ?_ | refine EvO.slen rfl rfl rfl (by dsimp only [Fr.put,List.set_cons_succ,List.set_cons_zero] <;> rfl) ?_ | refine EvO.go rfl rfl rfl (by dsimp only [Fr.put,List.set_cons_succ,List.set_cons_zero] <;> rfl) ?_
   try simp only [List.length_map,List.length_append,List.length_cons,List.length_nil,List.length_set,List.length_replicate,List.length_reverse]
   refine EvO.subZ (z := ((n : Nat) : Int)) rfl (ev rfl) (ev rfl) (by (try simp only [List.length_reverse,List.length_cons,List.length_nil,List.length_append,List.length_map,List.length_set]); first | (rw [wrap_i64 (by omega) (by omega)] <;> omega) | (rw [wrap_i32 (by omega) (by omega)] <;> omega)) (by dsimp only [Fr.put,List.set_cons_succ,List.set_cons_zero] <;> rfl) ?_
   refine EvO.hcall rfl rfl (hevw) (by dsimp only [Fr.put,List.set_cons_succ,List.set_cons_zero] <;> rfl) ?_
   first | refine EvO.ridx rfl (ev rfl) (ev rfl) (Arg.rows (by assumption) hH) rfl rfl (by assumption) (fun _ => by dsimp only [Fr.put,List.set_cons_succ,List.set_cons_zero] <;> rfl) (fun p68 hp68 => ?_) | refine EvO.oidx hH rfl (ev rfl) (ev rfl) (by first | exact at0 | exact at1 | exact at2 | exact at3 | exact at4 | exact at5 | exact at6 | exact at7) rfl rfl (by first | exact lt_get (by assumption) | omega | (simp only [List.length_map,List.length_append,List.length_cons,List.length_nil,List.length_set,List.length_replicate] <;> omega)) (fun _ => by dsimp only [Fr.put,List.set_cons_succ,List.set_cons_zero] <;> rfl) (fun p68 hp68 => ?_)
   refine EvO.mv (.inr rfl) rfl (ev rfl) (by dsimp only [Fr.put,List.set_cons_succ,List.set_cons_zero] <;> rfl) ?_
   refine EvO.nil ?_
   try subst hK
   try change EvC _ _ _ _ _ _
   have hmemE : ∀ y ∈ C,pgE y ∈ C.map pgE := fun y hy => List.mem_map_of_mem hy
   have hnum : ∀ {st : St} (c' : PIns),c'.rd = c.rd -> c'.rs = c.rs -> Has s0.bs.length S st (.box k14 (.mem 0 false [cd,sd]) :: .lst cd 4 ((C.map insC).set k (insC c')) :: .lst sd 1 (R.starts.map intC) :: (C.map pgE ++ [.lst ld 1 (parts.map partC)])) -> Pg.okR st ⟨cd,C.set k c',sd,R.starts⟩ := fun {st} c' e1 e2 hH => by
    refine turned_okR hH (a := 1) (b := 2) (by rw [List.map_set]; rfl) rfl (fun y hy => ?_) (by rw [List.length_set]; omega) hs8
    rcases mem_set_or hy with hy | rfl
    ·exact ⟨by simp only [List.mem_cons,List.mem_append]; exact .inr (.inr (.inr (.inl (hmemE y hy)))),by have := hCf y hy; omega⟩
    ·have hpe : pgE y = pgE c := by unfold pgE; rw [e1,e2]
     rw [hpe,e2]
     exact ⟨by simp only [List.mem_cons,List.mem_append]; exact .inr (.inr (.inr (.inl (hmemE c hcm)))),by have := hCf c hcm; omega⟩
   obtain ⟨_,hevf,m,rfl,hm⟩ := withinN_ev (s0 := st) f 4 (by omega)
   try change EvC _ _ _ _ _ _
   repeat refine EvC.seq ?_
   try generalize hK : SeqQ _ _ _ _ = K
   refine EvC.reg ?_
   refine EvO.mv (.inl rfl) rfl (ev rfl) (by dsimp only [Fr.put,List.set_cons_succ,List.set_cons_zero] <;> rfl) ?_
   refine EvO.hcall rfl rfl (hevf) (by dsimp only [Fr.put,List.set_cons_succ,List.set_cons_zero] <;> rfl) ?_
   refine EvO.nil ?_
   try subst hK
   try change EvC _ _ _ _ _ _
   try change EvC _ _ _ _ _ _
   repeat refine EvC.seq ?_
   refine EvC.merge (fun fr st => ∃ (q' : Pg) (tmp : List (Nat × D)),fr = ⟨71, [ixF_CheckTurnedLaw fr 0,ixF_CheckTurnedLaw fr 1,ixF_CheckTurnedLaw fr 2,ixF_CheckTurnedLaw fr 3,ixF_CheckTurnedLaw fr 4,ixF_CheckTurnedLaw fr 5,ixF_CheckTurnedLaw fr 6,ixF_CheckTurnedLaw fr 7, .bool false,ixF_CheckTurnedLaw fr 9,ixF_CheckTurnedLaw fr 10,ixF_CheckTurnedLaw fr 11,ixF_CheckTurnedLaw fr 12,ixF_CheckTurnedLaw fr 13, .ptr k14 0 0,ixF_CheckTurnedLaw fr 15,ixF_CheckTurnedLaw fr 16,ixF_CheckTurnedLaw fr 17,ixF_CheckTurnedLaw fr 18,ixF_CheckTurnedLaw fr 19,ixF_CheckTurnedLaw fr 20,ixF_CheckTurnedLaw fr 21,ixF_CheckTurnedLaw fr 22,ixF_CheckTurnedLaw fr 23,ixF_CheckTurnedLaw fr 24,ixF_CheckTurnedLaw fr 25,ixF_CheckTurnedLaw fr 26,ixF_CheckTurnedLaw fr 27,ixF_CheckTurnedLaw fr 28,ixF_CheckTurnedLaw fr 29,ixF_CheckTurnedLaw fr 30,ixF_CheckTurnedLaw fr 31,ixF_CheckTurnedLaw fr 32,ixF_CheckTurnedLaw fr 33,ixF_CheckTurnedLaw fr 34,ixF_CheckTurnedLaw fr 35,ixF_CheckTurnedLaw fr 36,ixF_CheckTurnedLaw fr 37,ixF_CheckTurnedLaw fr 38,ixF_CheckTurnedLaw fr 39,ixF_CheckTurnedLaw fr 40,ixF_CheckTurnedLaw fr 41,ixF_CheckTurnedLaw fr 42,ixF_CheckTurnedLaw fr 43,ixF_CheckTurnedLaw fr 44,ixF_CheckTurnedLaw fr 45,ixF_CheckTurnedLaw fr 46,ixF_CheckTurnedLaw fr 47,ixF_CheckTurnedLaw fr 48,ixF_CheckTurnedLaw fr 49,ixF_CheckTurnedLaw fr 50,ixF_CheckTurnedLaw fr 51,ixF_CheckTurnedLaw fr 52,ixF_CheckTurnedLaw fr 53,ixF_CheckTurnedLaw fr 54,ixF_CheckTurnedLaw fr 55,ixF_CheckTurnedLaw fr 56,ixF_CheckTurnedLaw fr 57,ixF_CheckTurnedLaw fr 58,ixF_CheckTurnedLaw fr 59,ixF_CheckTurnedLaw fr 60,ixF_CheckTurnedLaw fr 61,ixF_CheckTurnedLaw fr 62,ixF_CheckTurnedLaw fr 63,ixF_CheckTurnedLaw fr 64,ixF_CheckTurnedLaw fr 65,ixF_CheckTurnedLaw fr 66,ixF_CheckTurnedLaw fr 67,ixF_CheckTurnedLaw fr 68,ixF_CheckTurnedLaw fr 69,ixF_CheckTurnedLaw fr 70],tmp⟩ /\ Has s0.bs.length S st [.box k14 (.mem 0 false [q'.cd,q'.sd])] /\ (q'.okR st)) ?_ ?_
   ·obtain rfl | rfl | rfl | rfl | rfl : m = 0 \/ m = 1 \/ m = 2 \/ m = 3 \/ m = 4 := by omega
    ·try change EvC _ _ _ _ _ _
     repeat refine EvC.seq ?_
     refine EvC.block ?_
     try change EvC _ _ _ _ _ _
     repeat refine EvC.seq ?_
     try generalize hK : SeqQ _ _ _ _ = K
     refine EvC.reg ?_
     refine EvO.go rfl rfl rfl (put_T rfl _) ?_
     refine EvO.mv (.inr rfl) rfl (ev rfl) (put_T rfl _) ?_
     refine EvO.nil ?_
     try subst hK
     try change EvC _ _ _ _ _ _
     try change EvC _ _ _ _ _ _
     repeat refine EvC.seq ?_
     refine EvC.cond (v := true) (by first | assumption | (dsimp only [Fr.ev,Fr.get,nth,Go.V.look]; rfl)) (fun _ => ?_) (fun h => by cases h)
     try change EvC _ _ _ _ _ _
     try change EvC _ _ _ _ _ _
     repeat refine EvC.seq ?_
     try generalize hK : SeqQ _ _ _ _ = K
     refine EvC.reg ?_
     refine EvO.mv (.inl rfl) rfl (ev rfl) (put_T rfl _) ?_
     refine EvO.mv (.inl rfl) rfl (ev rfl) (put_T rfl _) ?_
     refine EvO.go (d := p68) (st1 := _) rfl rfl (by obtain ⟨_,_,_,_,_,rfl⟩ := hp68; rfl) (put_T rfl _) ?_
     first | refine EvO.rfieldN (fo := 0) (m := 0) rfl (ev rfl) (by assumption) rfl rfl (fun _ => (put_T rfl _)) (fun p76 hp76 => ?_) | refine EvO.ofieldN (fo := 0) (m := 0) (o2 := 0) rfl (ev rfl) (by assumption) rfl rfl rfl (fun _ => (put_T rfl _)) (fun p76 hp76 => ?_)
     refine EvO.ostore hH rfl (ev rfl) (ev rfl) (by assumption) rfl rfl (by first | exact at0 | exact at1 | exact at2 | exact at3 | exact at4 | exact at5 | exact at6 | exact at7) (by assumption) (Nat.le_of_ble_eq_true rfl) (by first | exact .inl hF | exact .inr rfl | exact .inr (by assumption)) (fun st hH => ?_)
     try dsimp only [List.set_cons_zero,List.set_cons_succ,List.cons_append,List.nil_append,setMany,List.map_cons,List.map_nil,D.cells,Nat.reduceAdd,List.nil_append,partC,compD,Pg.d,Pg.cs,pgV,insC,intC,rangeC] at hH
     refine EvO.nil ?_
     try subst hK
     try change EvC _ _ _ _ _ _
     exact ⟨⟨cd,C.set k ⟨t,c.x,c.y,c.rd,c.rs⟩,sd,R.starts⟩,_,rfl,(hH.take 1),(hnum ⟨t,c.x,c.y,c.rd,c.rs⟩ rfl rfl hH)⟩
    ·try change EvC _ _ _ _ _ _
     repeat refine EvC.seq ?_
     refine EvC.block ?_
     try change EvC _ _ _ _ _ _
     repeat refine EvC.seq ?_
     try generalize hK : SeqQ _ _ _ _ = K
     refine EvC.reg ?_
     refine EvO.go rfl rfl rfl (put_T rfl _) ?_
     refine EvO.mv (.inr rfl) rfl (ev rfl) (put_T rfl _) ?_
     refine EvO.nil ?_
     try subst hK
     try change EvC _ _ _ _ _ _
     try change EvC _ _ _ _ _ _
     repeat refine EvC.seq ?_
     refine EvC.cond (v := false) (by first | assumption | (dsimp only [Fr.ev,Fr.get,nth,Go.V.look]; rfl)) (fun h => by cases h) (fun _ => ?_)
     try change EvC _ _ _ _ _ _
     try change EvC _ _ _ _ _ _
     repeat refine EvC.seq ?_
     try generalize hK : SeqQ _ _ _ _ = K
     refine EvC.reg ?_
     refine EvO.go rfl rfl rfl (put_T rfl _) ?_
     refine EvO.mv (.inr rfl) rfl (ev rfl) (put_T rfl _) ?_
     refine EvO.nil ?_
     try subst hK
     try change EvC _ _ _ _ _ _
     try change EvC _ _ _ _ _ _
     repeat refine EvC.seq ?_
     refine EvC.cond (v := true) (by first | assumption | (dsimp only [Fr.ev,Fr.get,nth,Go.V.look]; rfl)) (fun _ => ?_) (fun h => by cases h)
     try change EvC _ _ _ _ _ _
     try change EvC _ _ _ _ _ _
     repeat refine EvC.seq ?_
     try generalize hK : SeqQ _ _ _ _ = K
     refine EvC.reg ?_
     refine EvO.mv (.inl rfl) rfl (ev rfl) (put_T rfl _) ?_
     refine EvO.mv (.inl rfl) rfl (ev rfl) (put_T rfl _) ?_
     refine EvO.go (d := p68) (st1 := _) rfl rfl (by obtain ⟨_,_,_,_,_,rfl⟩ := hp68; rfl) (put_T rfl _) ?_
     first | refine EvO.rfieldN (fo := 1) (m := 0) rfl (ev rfl) (by assumption) rfl rfl (fun _ => (put_T rfl _)) (fun p82 hp82 => ?_) | refine EvO.ofieldN (fo := 1) (m := 0) (o2 := 1) rfl (ev rfl) (by assumption) rfl rfl rfl (fun _ => (put_T rfl _)) (fun p82 hp82 => ?_)
     refine EvO.ostore hH rfl (ev rfl) (ev rfl) (by assumption) rfl rfl (by first | exact at0 | exact at1 | exact at2 | exact at3 | exact at4 | exact at5 | exact at6 | exact at7) (by assumption) (Nat.le_of_ble_eq_true rfl) (by first | exact .inl hF | exact .inr rfl | exact .inr (by assumption)) (fun st hH => ?_)
     try dsimp only [List.set_cons_zero,List.set_cons_succ,List.cons_append,List.nil_append,setMany,List.map_cons,List.map_nil,D.cells,Nat.reduceAdd,List.nil_append,partC,compD,Pg.d,Pg.cs,pgV,insC,intC,rangeC] at hH
     refine EvO.nil ?_
     try subst hK
     try change EvC _ _ _ _ _ _
     exact ⟨⟨cd,C.set k ⟨c.op,t,c.y,c.rd,c.rs⟩,sd,R.starts⟩,_,rfl,(hH.take 1),(hnum ⟨c.op,t,c.y,c.rd,c.rs⟩ rfl rfl hH)⟩
    ·try change EvC _ _ _ _ _ _
     repeat refine EvC.seq ?_
     refine EvC.block ?_
     try change EvC _ _ _ _ _ _
     repeat refine EvC.seq ?_
     try generalize hK : SeqQ _ _ _ _ = K
     refine EvC.reg ?_
     refine EvO.go rfl rfl rfl (put_T rfl _) ?_
     refine EvO.mv (.inr rfl) rfl (ev rfl) (put_T rfl _) ?_
     refine EvO.nil ?_
     try subst hK
     try change EvC _ _ _ _ _ _
     try change EvC _ _ _ _ _ _
     repeat refine EvC.seq ?_
     refine EvC.cond (v := false) (by first | assumption | (dsimp only [Fr.ev,Fr.get,nth,Go.V.look]; rfl)) (fun h => by cases h) (fun _ => ?_)
     try change EvC _ _ _ _ _ _
     try change EvC _ _ _ _ _ _
     repeat refine EvC.seq ?_
     try generalize hK : SeqQ _ _ _ _ = K
     refine EvC.reg ?_
     refine EvO.go rfl rfl rfl (put_T rfl _) ?_
     refine EvO.mv (.inr rfl) rfl (ev rfl) (put_T rfl _) ?_
     refine EvO.nil ?_
     try subst hK
     try change EvC _ _ _ _ _ _
     try change EvC _ _ _ _ _ _
     repeat refine EvC.seq ?_
     refine EvC.cond (v := false) (by first | assumption | (dsimp only [Fr.ev,Fr.get,nth,Go.V.look]; rfl)) (fun h => by cases h) (fun _ => ?_)
     try change EvC _ _ _ _ _ _
     try change EvC _ _ _ _ _ _
     repeat refine EvC.seq ?_
     try generalize hK : SeqQ _ _ _ _ = K
     refine EvC.reg ?_
     refine EvO.go rfl rfl rfl (put_T rfl _) ?_
     refine EvO.mv (.inr rfl) rfl (ev rfl) (put_T rfl _) ?_
     refine EvO.nil ?_
     try subst hK
     try change EvC _ _ _ _ _ _
     try change EvC _ _ _ _ _ _
     repeat refine EvC.seq ?_
     refine EvC.cond (v := true) (by first | assumption | (dsimp only [Fr.ev,Fr.get,nth,Go.V.look]; rfl)) (fun _ => ?_) (fun h => by cases h)
     try change EvC _ _ _ _ _ _
     try change EvC _ _ _ _ _ _
     repeat refine EvC.seq ?_
     try generalize hK : SeqQ _ _ _ _ = K
     refine EvC.reg ?_
     refine EvO.mv (.inl rfl) rfl (ev rfl) (put_T rfl _) ?_
     refine EvO.mv (.inl rfl) rfl (ev rfl) (put_T rfl _) ?_
     refine EvO.go (d := p68) (st1 := _) rfl rfl (by obtain ⟨_,_,_,_,_,rfl⟩ := hp68; rfl) (put_T rfl _) ?_
     first | refine EvO.rfieldN (fo := 2) (m := 0) rfl (ev rfl) (by assumption) rfl rfl (fun _ => (put_T rfl _)) (fun p88 hp88 => ?_) | refine EvO.ofieldN (fo := 2) (m := 0) (o2 := 2) rfl (ev rfl) (by assumption) rfl rfl rfl (fun _ => (put_T rfl _)) (fun p88 hp88 => ?_)
     refine EvO.ostore hH rfl (ev rfl) (ev rfl) (by assumption) rfl rfl (by first | exact at0 | exact at1 | exact at2 | exact at3 | exact at4 | exact at5 | exact at6 | exact at7) (by assumption) (Nat.le_of_ble_eq_true rfl) (by first | exact .inl hF | exact .inr rfl | exact .inr (by assumption)) (fun st hH => ?_)
     try dsimp only [List.set_cons_zero,List.set_cons_succ,List.cons_append,List.nil_append,setMany,List.map_cons,List.map_nil,D.cells,Nat.reduceAdd,List.nil_append,partC,compD,Pg.d,Pg.cs,pgV,insC,intC,rangeC] at hH
     refine EvO.nil ?_
     try subst hK
     try change EvC _ _ _ _ _ _
     exact ⟨⟨cd,C.set k ⟨c.op,c.x,t,c.rd,c.rs⟩,sd,R.starts⟩,_,rfl,(hH.take 1),(hnum ⟨c.op,c.x,t,c.rd,c.rs⟩ rfl rfl hH)⟩
    ·try change EvC _ _ _ _ _ _
     repeat refine EvC.seq ?_
     refine EvC.block ?_
     try change EvC _ _ _ _ _ _
     repeat refine EvC.seq ?_
     try generalize hK : SeqQ _ _ _ _ = K
     refine EvC.reg ?_
     refine EvO.go rfl rfl rfl (put_T rfl _) ?_
     refine EvO.mv (.inr rfl) rfl (ev rfl) (put_T rfl _) ?_
     refine EvO.nil ?_
     try subst hK
     try change EvC _ _ _ _ _ _
     try change EvC _ _ _ _ _ _
     repeat refine EvC.seq ?_
     refine EvC.cond (v := false) (by first | assumption | (dsimp only [Fr.ev,Fr.get,nth,Go.V.look]; rfl)) (fun h => by cases h) (fun _ => ?_)
     try change EvC _ _ _ _ _ _
     try change EvC _ _ _ _ _ _
     repeat refine EvC.seq ?_
     try generalize hK : SeqQ _ _ _ _ = K
     refine EvC.reg ?_
     refine EvO.go rfl rfl rfl (put_T rfl _) ?_
     refine EvO.mv (.inr rfl) rfl (ev rfl) (put_T rfl _) ?_
     refine EvO.nil ?_
     try subst hK
     try change EvC _ _ _ _ _ _
     try change EvC _ _ _ _ _ _
     repeat refine EvC.seq ?_
     refine EvC.cond (v := false) (by first | assumption | (dsimp only [Fr.ev,Fr.get,nth,Go.V.look]; rfl)) (fun h => by cases h) (fun _ => ?_)
     try change EvC _ _ _ _ _ _
     try change EvC _ _ _ _ _ _
     repeat refine EvC.seq ?_
     try generalize hK : SeqQ _ _ _ _ = K
     refine EvC.reg ?_
     refine EvO.go rfl rfl rfl (put_T rfl _) ?_
     refine EvO.mv (.inr rfl) rfl (ev rfl) (put_T rfl _) ?_
     refine EvO.nil ?_
     try subst hK
     try change EvC _ _ _ _ _ _
     try change EvC _ _ _ _ _ _
     repeat refine EvC.seq ?_
     refine EvC.cond (v := false) (by first | assumption | (dsimp only [Fr.ev,Fr.get,nth,Go.V.look]; rfl)) (fun h => by cases h) (fun _ => ?_)
     try change EvC _ _ _ _ _ _
     try change EvC _ _ _ _ _ _
     repeat refine EvC.seq ?_
     try generalize hK : SeqQ _ _ _ _ = K
     refine EvC.reg ?_
     refine EvO.go rfl rfl rfl (put_T rfl _) ?_
     refine EvO.mv (.inr rfl) rfl (ev rfl) (put_T rfl _) ?_
     refine EvO.nil ?_
     try subst hK
     try change EvC _ _ _ _ _ _
     try change EvC _ _ _ _ _ _
     repeat refine EvC.seq ?_
     refine EvC.cond (v := true) (by first | assumption | (dsimp only [Fr.ev,Fr.get,nth,Go.V.look]; rfl)) (fun _ => ?_) (fun h => by cases h)
     try change EvC _ _ _ _ _ _
     obtain ⟨X,Y,hC,hXl⟩ : ∃ X Y,C = X ++ c :: Y /\ X.length = k := ⟨C.take k,C.drop (k + 1),by
      obtain ⟨h3,h4⟩ := List.getElem?_eq_some_iff.1 hck
      conv => lhs; rw [<- List.take_append_drop k C,List.drop_eq_getElem_cons h3,h4],by rw [List.length_take]; omega⟩
     have hH : Has s0.bs.length S st (.box k14 (.mem 0 false [cd,sd]) :: .lst cd 4 (C.map insC) :: .lst sd 1 (R.starts.map intC) :: .lst c.rd 2 (c.rs.map rangeC) :: (X.map pgE ++ (Y.map pgE ++ [.lst ld 1 (parts.map partC)]))) := by
      have h9 : Has s0.bs.length S st ([.box k14 (.mem 0 false [cd,sd]), .lst cd 4 (C.map insC), .lst sd 1 (R.starts.map intC)] ++ (X.map pgE ++ ([pgE c] ++ (Y.map pgE ++ [.lst ld 1 (parts.map partC)])))) := by
       have : C.map pgE = X.map pgE ++ pgE c :: Y.map pgE := by rw [hC,List.map_append,List.map_cons]
       rw [this] at hH
       simpa only [List.cons_append,List.nil_append,List.append_assoc] using hH
      have h10 := Has.rot ([.box k14 (.mem 0 false [cd,sd]), .lst cd 4 (C.map insC), .lst sd 1 (R.starts.map intC)] ++ X.map pgE) [pgE c] (H := Y.map pgE ++ [.lst ld 1 (parts.map partC)]) (by simpa only [List.append_assoc] using h9)
      have h11 := Has.rot [pgE c] [.box k14 (.mem 0 false [cd,sd]), .lst cd 4 (C.map insC), .lst sd 1 (R.starts.map intC)] (H := X.map pgE ++ (Y.map pgE ++ [.lst ld 1 (parts.map partC)])) (by simpa only [List.append_assoc] using h10)
      exact h11
     have hcl1 := hCf c hcm
     try change EvC _ _ _ _ _ _
     repeat refine EvC.seq ?_
     try generalize hK : SeqQ _ _ _ _ = K
     refine EvC.reg ?_
     refine EvO.mv (.inl rfl) rfl (ev rfl) (put_T rfl _) ?_
     refine EvO.mv (.inl rfl) rfl (ev rfl) (put_T rfl _) ?_
     refine EvO.go (d := p68) (st1 := _) rfl rfl (by obtain ⟨_,_,_,_,_,rfl⟩ := hp68; rfl) (put_T rfl _) ?_
     first | refine EvO.rfieldN (fo := 3) (m := 0) rfl (ev rfl) (by assumption) rfl rfl (fun _ => (put_T rfl _)) (fun p94 hp94 => ?_) | refine EvO.ofieldN (fo := 3) (m := 0) (o2 := 3) rfl (ev rfl) (by assumption) rfl rfl rfl (fun _ => (put_T rfl _)) (fun p94 hp94 => ?_)
     first | refine EvO.rload rfl (ev rfl) (by assumption) rfl (put_T rfl _) ?_ | refine EvO.oload hH rfl (ev rfl) (by assumption) (by first | exact at0 | exact at1 | exact at2 | exact at3 | exact at4 | exact at5 | exact at6 | exact at7) (by assumption) rfl (put_T rfl _) ?_ | refine EvO.hload hH rfl (ev rfl) (by first | exact at0 | exact at1 | exact at2 | exact at3 | exact at4 | exact at5 | exact at6 | exact at7) rfl (put_T rfl _) ?_
     refine EvO.mv (.inl rfl) rfl (ev rfl) (put_T rfl _) ?_
     refine EvO.go (d := .int .i64 (t.tmod 5000)) (st1 := _) rfl rfl (by exact rem5 t _) (put_T rfl _) ?_
     refine EvO.go (d := _) (st1 := _) rfl rfl rfl (put_T rfl _) ?_
     refine EvO.mv (.inl rfl) rfl (ev rfl) (put_T rfl _) ?_
     refine EvO.go (d := .int .i64 (t.tmod 5000)) (st1 := _) rfl rfl (by exact rem5 t _) (put_T rfl _) ?_
     refine EvO.go (d := _) (st1 := _) rfl rfl rfl (put_T rfl _) ?_
     refine EvO.go (d := .agg [.int .i32 (wrapD .i32 (t.tmod 5000)), .int .i32 (wrapD .i32 (t.tmod 5000))]) (st1 := _) rfl rfl rfl (put_T rfl _) ?_
     refine EvO.hlist (s := 2) (vs := [_]) hH rfl rfl rfl rfl rfl (Nat.le_of_ble_eq_true rfl) ⟨rfl,(ev rfl),trivial⟩ rfl (by intro v hv; first | (cases hv; done) | (simp only [List.mem_cons,List.not_mem_nil,or_false] at hv; rcases hv with rfl <;> exact ⟨rfl,rfl⟩)) (fun _ => (put_T rfl _)) (fun k103 st hk103 hH => ?_)
     try dsimp only [List.set_cons_zero,List.set_cons_succ,List.cons_append,List.nil_append,setMany,List.map_cons,List.map_nil,D.cells,Nat.reduceAdd,List.nil_append,partC,compD,Pg.d,Pg.cs,pgV,insC,intC,rangeC] at hH
     refine EvO.happend (s := 2) hH rfl (ev rfl) (ev rfl) (by first | exact at0 | exact at1 | exact at2 | exact at3 | exact at4 | exact at5 | exact at6 | exact at7) (by first | exact hH.rows (by first | exact at0 | exact at1 | exact at2 | exact at3 | exact at4 | exact at5 | exact at6 | exact at7) | exact Arg.rows (by assumption) hH) rfl rfl rfl rfl rfl rfl rfl ⟨(Nat.le_of_ble_eq_true rfl),(Nat.le_of_ble_eq_true rfl)⟩ (fun _ => (put_T rfl _)) (by first | omega | (simp only [List.length_append,List.length_cons,List.length_nil,List.length_map,List.length_replicate,List.length_set,List.length_reverse] <;> omega)) (by first | exact .inl hF | exact .inr rfl | exact .inr (by assumption)) (fun x104 st hH => ?_)
     try dsimp only [List.set_cons_zero,List.set_cons_succ,List.cons_append,List.nil_append,setMany,List.map_cons,List.map_nil,D.cells,Nat.reduceAdd,List.nil_append,partC,compD,Pg.d,Pg.cs,pgV,insC,intC,rangeC] at hH
     refine EvO.go (d := p68) (st1 := _) rfl rfl (by obtain ⟨_,_,_,_,_,rfl⟩ := hp68; rfl) (put_T rfl _) ?_
     first | refine EvO.rfieldN (fo := 3) (m := 0) rfl (ev rfl) (by assumption) rfl rfl (fun _ => (put_T rfl _)) (fun p106 hp106 => ?_) | refine EvO.ofieldN (fo := 3) (m := 0) (o2 := 3) rfl (ev rfl) (by assumption) rfl rfl rfl (fun _ => (put_T rfl _)) (fun p106 hp106 => ?_)
     refine EvO.ostore hH rfl (ev rfl) (ev rfl) (by assumption) (hH.ocells (by first | exact at0 | exact at1 | exact at2 | exact at3 | exact at4 | exact at5)) rfl (by first | exact at0 | exact at1 | exact at2 | exact at3 | exact at4 | exact at5) hr1 (Nat.le_of_ble_eq_true rfl) (.inl hF) (fun st hH => ?_)
     refine EvO.nil ?_
     try subst hK
     try change EvC _ _ _ _ _ _
     generalize wrapD .i32 (t.tmod 5000) = w at *
     have hH : Has s0.bs.length S st (.lst (.win k103 0 0 1 2) 2 [[.int .i32 w, .int .i32 w]] :: .box k14 (.mem 0 false [cd,sd]) :: .lst cd 4 ((C.map insC).set k (insC ⟨c.op,c.x,c.y,x104,c.rs ++ [(w,w)]⟩)) :: .lst sd 1 (R.starts.map intC) :: .lst x104 2 ((c.rs ++ [(w,w)]).map rangeC) :: (X.map pgE ++ (Y.map pgE ++ [.lst ld 1 (parts.map partC)]))) := by rw [List.map_append]; exact hH
     have hset : C.set k ⟨c.op,c.x,c.y,x104,c.rs ++ [(w,w)]⟩ = X ++ ⟨c.op,c.x,c.y,x104,c.rs ++ [(w,w)]⟩ :: Y := by rw [hC, <- hXl]; simp
     have hCX : ∀ y ∈ X,y.rs.length <= 557057 := fun y hy => hCf y (by rw [hC]; exact List.mem_append_left _ hy)
     have hCY : ∀ y ∈ Y,y.rs.length <= 557057 := fun y hy => hCf y (by rw [hC]; exact List.mem_append_right _ (List.mem_cons_of_mem _ hy))
     refine ⟨⟨cd,C.set k ⟨c.op,c.x,c.y,x104,c.rs ++ [(w,w)]⟩,sd,R.starts⟩,_,rfl,((hH.drop 1).take 1),?_⟩
     refine turned_okR hH (a := 2) (b := 3) (by rw [List.map_set]; rfl) rfl (fun y hy => ?_) (by rw [List.length_set]; omega) hs8
     rw [hset] at hy
     simp only [List.mem_cons,List.mem_append]
     rcases List.mem_append.1 hy with hy | hy
     ·exact ⟨.inr (.inr (.inr (.inr (.inr (.inl (List.mem_map_of_mem hy)))))),by have := hCX y hy; omega⟩
     rcases List.mem_cons.1 hy with rfl | hy
     ·exact ⟨.inr (.inr (.inr (.inr (.inl rfl)))),by simp only [List.length_append,List.length_cons,List.length_nil]; omega⟩
     ·exact ⟨.inr (.inr (.inr (.inr (.inr (.inr (.inl (List.mem_map_of_mem hy))))))),by have := hCY y hy; omega⟩
    ·try change EvC _ _ _ _ _ _
     repeat refine EvC.seq ?_
     refine EvC.block ?_
     try change EvC _ _ _ _ _ _
     repeat refine EvC.seq ?_
     try generalize hK : SeqQ _ _ _ _ = K
     refine EvC.reg ?_
     refine EvO.go rfl rfl rfl (put_T rfl _) ?_
     refine EvO.mv (.inr rfl) rfl (ev rfl) (put_T rfl _) ?_
     refine EvO.nil ?_
     try subst hK
     try change EvC _ _ _ _ _ _
     try change EvC _ _ _ _ _ _
     repeat refine EvC.seq ?_
     refine EvC.cond (v := false) (by first | assumption | (dsimp only [Fr.ev,Fr.get,nth,Go.V.look]; rfl)) (fun h => by cases h) (fun _ => ?_)
     try change EvC _ _ _ _ _ _
     try change EvC _ _ _ _ _ _
     repeat refine EvC.seq ?_
     try generalize hK : SeqQ _ _ _ _ = K
     refine EvC.reg ?_
     refine EvO.go rfl rfl rfl (put_T rfl _) ?_
     refine EvO.mv (.inr rfl) rfl (ev rfl) (put_T rfl _) ?_
     refine EvO.nil ?_
     try subst hK
     try change EvC _ _ _ _ _ _
     try change EvC _ _ _ _ _ _
     repeat refine EvC.seq ?_
     refine EvC.cond (v := false) (by first | assumption | (dsimp only [Fr.ev,Fr.get,nth,Go.V.look]; rfl)) (fun h => by cases h) (fun _ => ?_)
     try change EvC _ _ _ _ _ _
     try change EvC _ _ _ _ _ _
     repeat refine EvC.seq ?_
     try generalize hK : SeqQ _ _ _ _ = K
     refine EvC.reg ?_
     refine EvO.go rfl rfl rfl (put_T rfl _) ?_
     refine EvO.mv (.inr rfl) rfl (ev rfl) (put_T rfl _) ?_
     refine EvO.nil ?_
     try subst hK
     try change EvC _ _ _ _ _ _
     try change EvC _ _ _ _ _ _
     repeat refine EvC.seq ?_
     refine EvC.cond (v := false) (by first | assumption | (dsimp only [Fr.ev,Fr.get,nth,Go.V.look]; rfl)) (fun h => by cases h) (fun _ => ?_)
     try change EvC _ _ _ _ _ _
     try change EvC _ _ _ _ _ _
     repeat refine EvC.seq ?_
     try generalize hK : SeqQ _ _ _ _ = K
     refine EvC.reg ?_
     refine EvO.go rfl rfl rfl (put_T rfl _) ?_
     refine EvO.mv (.inr rfl) rfl (ev rfl) (put_T rfl _) ?_
     refine EvO.nil ?_
     try subst hK
     try change EvC _ _ _ _ _ _
     try change EvC _ _ _ _ _ _
     repeat refine EvC.seq ?_
     refine EvC.cond (v := false) (by first | assumption | (dsimp only [Fr.ev,Fr.get,nth,Go.V.look]; rfl)) (fun h => by cases h) (fun _ => ?_)
     try change EvC _ _ _ _ _ _
     try change EvC _ _ _ _ _ _
     repeat refine EvC.seq ?_
     try generalize hK : SeqQ _ _ _ _ = K
     refine EvC.reg ?_
     refine EvO.go rfl rfl rfl (put_T rfl _) ?_
     refine EvO.mv (.inr rfl) rfl (ev rfl) (put_T rfl _) ?_
     refine EvO.nil ?_
     try subst hK
     try change EvC _ _ _ _ _ _
     try change EvC _ _ _ _ _ _
     repeat refine EvC.seq ?_
     refine EvC.cond (v := true) (by first | assumption | (dsimp only [Fr.ev,Fr.get,nth,Go.V.look]; rfl)) (fun _ => ?_) (fun h => by cases h)
     try change EvC _ _ _ _ _ _
     obtain ⟨_,hevs,k2,rfl,hk2⟩ := withinN_ev (s0 := st) a ns (by omega)
     obtain ⟨v,hv⟩ : ∃ v,R.starts[k2]? = some v := ⟨R.starts[k2]'(by omega),List.getElem?_eq_getElem _⟩
     have hr2 := int_get hv
     try change EvC _ _ _ _ _ _
     repeat refine EvC.seq ?_
     try generalize hK : SeqQ _ _ _ _ = K
     refine EvC.reg ?_
     refine EvO.pfield (fo := 1) (m := 0) (o := 1) rfl (ev rfl) rfl rfl rfl (put_T rfl _) ?_
     first | refine EvO.hload hH rfl (ev rfl) (by first | exact at0 | exact at1 | exact at2 | exact at3 | exact at4 | exact at5 | exact at6 | exact at7) rfl (put_T rfl _) ?_ | refine EvO.rload rfl (ev rfl) (by assumption) rfl (put_T rfl _) ?_ | refine EvO.oload hH rfl (ev rfl) (by assumption) (by first | exact at0 | exact at1 | exact at2 | exact at3 | exact at4 | exact at5 | exact at6 | exact at7) (by assumption) rfl (put_T rfl _) ?_
     refine EvO.mv (.inl rfl) rfl (ev rfl) (put_T rfl _) ?_
     refine EvO.pfield (fo := 1) (m := 0) (o := 1) rfl (ev rfl) rfl rfl rfl (put_T rfl _) ?_
     first | refine EvO.hload hH rfl (ev rfl) (by first | exact at0 | exact at1 | exact at2 | exact at3 | exact at4 | exact at5 | exact at6 | exact at7) rfl (put_T rfl _) ?_ | refine EvO.rload rfl (ev rfl) (by assumption) rfl (put_T rfl _) ?_ | refine EvO.oload hH rfl (ev rfl) (by assumption) (by first | exact at0 | exact at1 | exact at2 | exact at3 | exact at4 | exact at5 | exact at6 | exact at7) (by assumption) rfl (put_T rfl _) ?_
     first | refine EvO.rlen rfl (ev rfl) (Arg.rows (by assumption) hH) rfl (put_T rfl _) ?_ | refine EvO.rlen rfl (ev rfl) (hH.rows (by first | exact at0 | exact at1 | exact at2 | exact at3 | exact at4 | exact at5 | exact at6 | exact at7)) rfl (put_T rfl _) ?_ | refine EvO.slen rfl rfl rfl (put_T rfl _) ?_ | refine EvO.go rfl rfl rfl (put_T rfl _) ?_
     try simp only [List.length_map,List.length_append,List.length_cons,List.length_nil,List.length_set,List.length_replicate,List.length_reverse]
     refine EvO.subZ (z := ((ns : Nat) : Int)) rfl (ev rfl) (ev rfl) (by (try simp only [List.length_reverse,List.length_cons,List.length_nil,List.length_append,List.length_map,List.length_set]); first | (rw [wrap_i64 (by omega) (by omega)] <;> omega) | (rw [wrap_i32 (by omega) (by omega)] <;> omega)) (put_T rfl _) ?_
     refine EvO.hcall rfl rfl (hevs) (put_T rfl _) ?_
     refine EvO.mv (.inl rfl) rfl (ev rfl) (put_T rfl _) ?_
     first | refine EvO.ridx rfl (ev rfl) (ev rfl) (Arg.rows (by assumption) hH) rfl rfl (by assumption) (fun _ => (put_T rfl _)) (fun p118 hp118 => ?_) | refine EvO.oidx hH rfl (ev rfl) (ev rfl) (by first | exact at0 | exact at1 | exact at2 | exact at3 | exact at4 | exact at5 | exact at6 | exact at7) rfl rfl (by first | exact lt_get (by assumption) | omega | (simp only [List.length_map,List.length_append,List.length_cons,List.length_nil,List.length_set,List.length_replicate] <;> omega)) (fun _ => (put_T rfl _)) (fun p118 hp118 => ?_)
     refine EvO.ostore hH rfl (ev rfl) (ev rfl) (by assumption) rfl rfl (by first | exact at0 | exact at1 | exact at2 | exact at3 | exact at4 | exact at5 | exact at6 | exact at7) (by assumption) (Nat.le_of_ble_eq_true rfl) (by first | exact .inl hF | exact .inr rfl | exact .inr (by assumption)) (fun st hH => ?_)
     try dsimp only [List.set_cons_zero,List.set_cons_succ,List.cons_append,List.nil_append,setMany,List.map_cons,List.map_nil,D.cells,Nat.reduceAdd,List.nil_append,partC,compD,Pg.d,Pg.cs,pgV,insC,intC,rangeC] at hH
     refine EvO.nil ?_
     try subst hK
     try change EvC _ _ _ _ _ _
     refine ⟨⟨cd,C,sd,R.starts.set k2 t⟩,_,rfl,(hH.take 1),?_⟩
     refine turned_okR hH (a := 1) (b := 2) rfl (by rw [List.map_set]; rfl) (fun y hy => ⟨?_,by have := hCf y hy; omega⟩) (by omega) (by rw [List.length_set]; exact hs8)
     simp only [List.mem_cons,List.mem_append]; exact .inr (.inr (.inr (.inl (hmemE y hy))))
   ·rintro fr st ⟨q',tmp,hfr,hH,hq'⟩
    rw [hfr]
    clear hfr
    try generalize ixF_CheckTurnedLaw fr = ee
    clear fr
    try change EvC _ _ _ _ _ _
    have hc1 := checkRightR_ev hq'
    have hc2 := refRightQR_ev hq'
    unfold Pg.d Pg.cs at hc1 hc2
    have hd1 := rows_cellsJ hq'.c
    have hd2 := rows_cellsJ hq'.s
    generalize dec (RightQ q') = bb at *
    have hg5 : (bb == bb) = true := by simp
    try change EvC _ _ _ _ _ _
    repeat refine EvC.seq ?_
    try generalize hK : SeqQ _ _ _ _ = K
    refine EvC.reg ?_
    first | refine EvO.hloadS (m := 2) hH rfl (ev rfl) (by first | exact at0 | exact at1 | exact at2 | exact at3 | exact at4 | exact at5 | exact at6 | exact at7) (by dsimp only [List.drop_succ_cons,List.drop_zero,List.take_succ_cons,List.take_zero,partC,compD,Pg.d,Pg.cs,pgV,insC,intC,rangeC] <;> rfl) rfl rfl (put_T rfl _) ?_ | refine EvO.rload rfl (ev rfl) (by assumption) rfl (put_T rfl _) ?_ | refine EvO.oload hH rfl (ev rfl) (by assumption) (by first | exact at0 | exact at1 | exact at2 | exact at3 | exact at4 | exact at5 | exact at6 | exact at7) (by assumption) rfl (put_T rfl _) ?_
    refine EvO.hcall rfl rfl (hc1) (put_T rfl _) ?_
    first | refine EvO.hloadS (m := 2) hH rfl (ev rfl) (by first | exact at0 | exact at1 | exact at2 | exact at3 | exact at4 | exact at5 | exact at6 | exact at7) (by dsimp only [List.drop_succ_cons,List.drop_zero,List.take_succ_cons,List.take_zero,partC,compD,Pg.d,Pg.cs,pgV,insC,intC,rangeC] <;> rfl) rfl rfl (put_T rfl _) ?_ | refine EvO.rload rfl (ev rfl) (by assumption) rfl (put_T rfl _) ?_ | refine EvO.oload hH rfl (ev rfl) (by assumption) (by first | exact at0 | exact at1 | exact at2 | exact at3 | exact at4 | exact at5 | exact at6 | exact at7) (by assumption) rfl (put_T rfl _) ?_
    refine EvO.hcall rfl rfl (hc2) (put_T rfl _) ?_
    refine EvO.go rfl rfl rfl (put_T rfl _) ?_
    refine EvO.mv (.inl rfl) rfl (ev rfl) (put_T rfl _) ?_
    refine EvO.hcall (wantD_is rfl rfl rfl hg5) rfl (Ev.prim rfl rfl) (put_T rfl _) ?_
    refine EvO.pickT rfl rfl hg5 (put_T rfl _) ?_
    refine EvO.mv (.inr rfl) rfl (ev rfl) (by dsimp only [Fr.put,List.set_cons_succ,List.set_cons_zero] <;> rfl) ?_
    refine EvO.nil ?_
    try subst hK
    try change EvC _ _ _ _ _ _
    refine EvC.ret ⟨fun i h => (by cases h),_,rfl,leave_ro (by simp) hSb hH (rfl)⟩
theorem own : ownKnob Try.prog.godebug = none := by kernel_rfl
theorem laidOut : laidOutB Try.prog = true := by kernel_rfl
theorem lifted (os : Os) (started : os.Started) (H : Type) (enc : TypeId × Value -> H) (F : Stop.Interp) :
  ReturnsInHanded {} Try.checked os 3 .any ((Rows.OpenSpec.upto Rows.checkTurnedSpec).pre6 enc Try.prog Try.f3 Rows.checkTurnedUptoRow.domain false) (((Rows.OpenSpec.upto Rows.checkTurnedSpec).at F).post enc Try.prog Try.f3 false true false false) := by
 refine returnsInHanded_of_cond (C := Try.checked) (s := Rows.OpenSpec.upto Rows.checkTurnedSpec) (k := Rows.uptoSmall) rfl own started (by kernel_rfl) Try.func3
  (OpenSpec.witness (enc := enc) (C := Try.checked) (s := Rows.OpenSpec.upto Rows.checkTurnedSpec) (k := Rows.uptoSmall) rfl false ⟨#[], #[.slice none 0 0, .int .i64 0, .int .i64 0, .int .i64 0], []⟩ 8 (by kernel_rfl) (by kernel_rfl) (by kernel_rfl)
   (x := ([.nil, .lit (.int .i64 0), .lit (.int .i64 0), .lit (.int .i64 0)], [], [])) (by kernel_rfl) rfl (by kernel_rfl)) ?_
 intro W base args ds gs before hval hW _ hk _
 have hW' := hW
 obtain ⟨p,q,hA0,hV,rfl,hfz,hnd⟩ := hW
 have hA : DataW.TrodAll enc Try.prog W 0 (fun _ => true) true Try.f3.params.toList args.toList ds p := hA0
 rw [Try.params3] at hA hval
 obtain ⟨v0,vs0,d0,ds0,p0,q0,hargs,rfl,rfl,h0,r0⟩ := trodAll_cons hA
 obtain ⟨v1,vs1,d1,ds1,p1,q1,rfl,rfl,rfl,h1,r1⟩ := trodAll_cons r0
 obtain ⟨v2,vs2,d2,ds2,p2,q2,rfl,rfl,rfl,h2,r2⟩ := trodAll_cons r1
 obtain ⟨v3,vs3,d3,ds3,p3,q3,rfl,rfl,rfl,h3,r3⟩ := trodAll_cons r2
 obtain ⟨rfl,rfl,rfl⟩ := trodAll_nil r3
 obtain rfl : args = #[v0,v1,v2,v3] := by cases args; simp_all
 obtain ⟨rfl,rfl⟩ := trodVars_none hV
 simp only [Rows.uptoSmall,List.append_nil,List.nil_append,List.singleton_append,List.cons_append,decide_eq_true_eq,Rows.uptoBulkAll] at hk
 have i0 := trod_ir h0 (n := 12) (by kernel_rfl) (hval 0 22 v0 rfl rfl)
 have k0 := h0
 have lt0 : ∀ x ∈ p0,x.block < W.heap.size := by obtain ⟨m,hm⟩ := k0; exact DataW.trod_lt m _ _ _ hm
 obtain ⟨y0,b0,hb0,sl0,ok0⟩ := arg_strs (Rd.of h0)
 have i1 := trod_ir h1 (n := 12) (by kernel_rfl) (hval 1 3 v1 rfl rfl)
 have k1 := h1
 have lt1 : ∀ x ∈ p1,x.block < W.heap.size := by obtain ⟨m,hm⟩ := k1; exact DataW.trod_lt m _ _ _ hm
 obtain ⟨b1,hb1,hs1,w1⟩ := arg_int h1 Try.underlying3
 have i2 := trod_ir h2 (n := 12) (by kernel_rfl) (hval 2 3 v2 rfl rfl)
 have k2 := h2
 have lt2 : ∀ x ∈ p2,x.block < W.heap.size := by obtain ⟨m,hm⟩ := k2; exact DataW.trod_lt m _ _ _ hm
 obtain ⟨b2,hb2,hs2,w2⟩ := arg_int h2 Try.underlying3
 have i3 := trod_ir h3 (n := 12) (by kernel_rfl) (hval 3 3 v3 rfl rfl)
 have k3 := h3
 have lt3 : ∀ x ∈ p3,x.block < W.heap.size := by obtain ⟨m,hm⟩ := k3; exact DataW.trod_lt m _ _ _ hm
 obtain ⟨b3,hb3,hs3,w3⟩ := arg_int h3 Try.underlying3
 have hlaw : Ev pv 3 [dval d0,dval d1,dval d2,dval d3] ⟨[],0,0⟩ (.bool true) ⟨[],0,0⟩ := by
  rw [hb0,hb1,hb2,hb3]
  exact law y0 b0 sl0 (ok0 (by omega)) b1 b2 b3
 have hir : ∀ (i : Nat) c v, [dval d0,dval d1,dval d2,dval d3][i]? = some c -> [v0,v1,v2,v3][i]? = some v -> IR W (fun b => b < W.heap.size) c v := by
  intro i c v hc hv
  match i,hc,hv with
  | 0,hc,hv => cases hc; cases hv; exact i0
  | 1,hc,hv => cases hc; cases hv; exact i1
  | 2,hc,hv => cases hc; cases hv; exact i2
  | 3,hc,hv => cases hc; cases hv; exact i3
 clear hA0
 refine (law_calls view hlaw (us := [v0,v1,v2,v3]) rfl hir).mono fun e W' ⟨he,bel⟩ => ?_
 subst he
 exact ⟨_,rfl,_,_,_, [],_, [],hW',trodAll_mk1 (shut_bool Try.underlying4 _),(trodAll_cons_mk (Below.trod laidOut (by kernel_rfl) (of_decide_eq_true (by kernel_rfl)) k0 bel lt0) (trodAll_cons_mk (Below.trod laidOut (by kernel_rfl) (of_decide_eq_true (by kernel_rfl)) k1 bel lt1) (trodAll_cons_mk (Below.trod laidOut (by kernel_rfl) (of_decide_eq_true (by kernel_rfl)) k2 bel lt2) (trodAll_cons_mk (Below.trod laidOut (by kernel_rfl) (of_decide_eq_true (by kernel_rfl)) k3 bel lt3) trodAll_mk0)))),rfl,bel.frame _,fun h => by cases h⟩
theorem fact1 : (Rows.checkTurnedUptoRow.inPlace == Try.checked.prog.inPlace 3) = true := by kernel_rfl
theorem fact2 : (Rows.checkTurnedUptoRow.unfollowed == Try.checked.prog.unfollowed 3) = true := by kernel_rfl
theorem fact3 : (Rows.checkTurnedUptoRow.recurses == Try.checked.prog.recurses 3) = true := by kernel_rfl
theorem fact4 : (Rows.checkTurnedUptoRow.named == Try.checked.prog.varsNamed 3) = true := by kernel_rfl
theorem and_t {a b : Bool} (h1 : a = true) (h2 : b = true) : (a && b) = true := by rw [h1,h2]; rfl
theorem facts : joinedFacts Try.checked.prog 3 Try.f3 (Rows.OpenSpec.upto Rows.checkTurnedSpec).bare Rows.checkTurnedUptoRow = true := by
 unfold joinedFacts
 exact and_t (and_t (and_t (and_t (and_t (and_t (and_t (and_t (and_t (and_t (and_t (and_t (and_t (and_t (and_t (and_t (and_t (and_t (and_t (and_t (and_t (and_t (and_t (by kernel_rfl) fact1) fact2) fact3) fact4) (by kernel_rfl)) (by kernel_rfl)) (by kernel_rfl)) (by kernel_rfl)) (by kernel_rfl)) (by kernel_rfl)) (by kernel_rfl)) (by kernel_rfl)) (by kernel_rfl)) (by kernel_rfl)) (by kernel_rfl)) (by kernel_rfl)) (by kernel_rfl)) (by kernel_rfl)) (by kernel_rfl)) (by kernel_rfl)) (by kernel_rfl)) (by kernel_rfl)) (by kernel_rfl)
theorem proved : Rows.CheckTurnedUptoSaid :=
 OpenClaim.holds_of_cond 3 Try.f3 rfl rfl rfl rfl rfl rfl rfl ⟨rfl,rfl,rfl,rfl,rfl⟩ rfl rfl rfl rfl rfl (by kernel_rfl) Try.func3 facts
  (of_decide_eq_true (by kernel_rfl)) (by unfold Func.isWrapper; first | (rw [if_pos (by decide +kernel)]; kernel_rfl) | (rw [if_neg (by decide +kernel)]; exact ⟨rfl,rfl⟩))
  (fun os started H enc _ F => lifted os started H enc F)
end Go.Proofs.Ytnleclohocdkaaa.checkTurned
#print axioms Go.Proofs.Ytnleclohocdkaaa.checkTurned.proved
