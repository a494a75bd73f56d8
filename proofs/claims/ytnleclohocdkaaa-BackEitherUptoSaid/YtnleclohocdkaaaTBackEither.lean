/- own -/
import Derived.Test.YtnleclohocdkaaaTGQh
import Derived.Test.YtnleclohocdkaaaTGQn
import Derived.Test.YtnleclohocdkaaaRows
import Derived.WalkKit
import Derived.ProofKit
import Derived.OpenShut
import Derived.JoinedCond
import Derived.ChangeOld
set_option maxRecDepth 100000
set_option maxHeartbeats 4000000
set_option linter.unusedSimpArgs false
set_option linter.unusedVariables false
namespace Go.Proofs.Ytnleclohocdkaaa.backEither
open Go.ChangeShapes Go.WideShapes Go.ChangeAt Go.RowKit Go.V
def ixF_BackEitherLaw (fr : Go.V.Fr) (k : Nat) : Go.V.D := Go.V.nth .junk fr.loc k
theorem head_ev {s0 : St} (b : List UInt8) : Ev pv 24 [.str b, .int .i64 60] s0 (.str (b.take 60)) s0 := by
 refine Ev.mk1 rfl fi24 rfl rfl rfl ?_
 dsimp only [List.cons_append,List.nil_append,List.length,Nat.reduceSub,Nat.reduceAdd,List.replicate_succ,List.replicate_zero]
 have hSb : (enterSt .ro s0).bs = s0.bs := rfl
 have hF : (enterSt .ro s0).flr <= s0.bs.length := Nat.le_refl _
 have hH : Has s0.bs.length (enterSt .ro s0) (enterSt .ro s0) [] := Has.start (Nat.le_refl _) (Nat.le_refl _)
 generalize enterSt .ro s0 = S at *
 try change EvC _ _ _ _ _ _
 repeat refine EvC.seq ?_
 try generalize hK : SeqQ _ _ _ _ = K
 refine EvC.reg ?_
 refine EvO.mv (.inr rfl) rfl (ev rfl) (by dsimp only [Fr.put,List.set_cons_succ,List.set_cons_zero] <;> rfl) ?_
 refine EvO.nil ?_
 try subst hK
 try change EvC _ _ _ _ _ _
 try change EvC _ _ _ _ _ _
 repeat refine EvC.seq ?_
 try generalize hK : SeqQ _ _ _ _ = K
 refine EvC.reg ?_
 refine EvO.mv (.inl rfl) rfl (ev rfl) (put_T rfl _) ?_
 first | refine EvO.rlen rfl (ev rfl) (Arg.rows (by assumption) hH) rfl (put_T rfl _) ?_ | refine EvO.rlen rfl (ev rfl) (hH.rows (by first | exact at0 | exact at1 | exact at2 | exact at3 | exact at4 | exact at5 | exact at6 | exact at7)) rfl (put_T rfl _) ?_ | refine EvO.slen rfl rfl rfl (put_T rfl _) ?_ | refine EvO.go rfl rfl rfl (put_T rfl _) ?_
 try simp only [List.length_map,List.length_append,List.length_cons,List.length_nil,List.length_set,List.length_replicate,List.length_reverse]
 refine EvO.mv (.inl rfl) rfl (ev rfl) (put_T rfl _) ?_
 refine EvO.go rfl rfl rfl (put_T rfl _) ?_
 refine EvO.nil ?_
 try subst hK
 try change EvC _ _ _ _ _ _
 try change EvC _ _ _ _ _ _
 repeat refine EvC.seq ?_
 refine EvC.cond (by first | rfl | assumption) (fun h0 => ?_) (fun h0 => ?_) <;> try simp only [decide_eq_true_eq,decide_eq_false_iff_not,beq_iff_eq,beq_eq_false_iff_ne,bne_iff_ne,bne_eq_false_iff_eq,ne_eq,Bool.not_eq_true',Bool.not_eq_false',Bool.not_eq_true,Bool.not_eq_false] at h0
 ·try change EvC _ _ _ _ _ _
  repeat refine EvC.seq ?_
  try generalize hK : SeqQ _ _ _ _ = K
  refine EvC.reg ?_
  refine EvO.mv (.inl rfl) rfl (ev rfl) (put_T rfl _) ?_
  refine EvO.mv (.inl rfl) rfl (ev rfl) (put_T rfl _) ?_
  refine EvO.go (d := .str (b.take 60)) (st1 := _) rfl rfl (by show Option.map _ (Option.map _ (boundsD b.length none (some (.int .i64 ((60 : Nat) : Int))))) = _; rw [bounds_to (by omega)]; rfl) (put_T rfl _) ?_
  refine EvO.mv (.inr rfl) rfl (ev rfl) (by dsimp only [Fr.put,List.set_cons_succ,List.set_cons_zero] <;> rfl) ?_
  refine EvO.nil ?_
  try subst hK
  try change EvC _ _ _ _ _ _
  refine EvC.ret ⟨fun i h => (by cases h),_,rfl,leave_ro (by simp) hSb hH (rfl)⟩
 ·rw [List.take_of_length_le (by omega)]
  refine EvC.skip ?_
  try change EvC _ _ _ _ _ _
  try change EvC _ _ _ _ _ _
  repeat refine EvC.seq ?_
  try generalize hK : SeqQ _ _ _ _ = K
  refine EvC.reg ?_
  refine EvO.mv (.inl rfl) rfl (ev rfl) (put_T rfl _) ?_
  refine EvO.mv (.inr rfl) rfl (ev rfl) (by dsimp only [Fr.put,List.set_cons_succ,List.set_cons_zero] <;> rfl) ?_
  refine EvO.nil ?_
  try subst hK
  try change EvC _ _ _ _ _ _
  refine EvC.ret ⟨fun i h => (by cases h),_,rfl,leave_ro (by simp) hSb hH (rfl)⟩
theorem parseL_ev {s0 : St} {b : List UInt8} (hlong : 120 < b.length) (hb : b.length <= 4194304) : Ev pv 11 [.str b] s0 (parseD ([],2,0)) s0 := by
 suffices hg : ∃ d,Ev pv 11 [.str b] s0 d s0 /\ d = parseD ([],2,0) by
  obtain ⟨d,h1,rfl⟩ := hg
  exact h1
 refine Ev.mkR rfl fi11 rfl rfl rfl ?_
 dsimp only [List.cons_append,List.nil_append,List.length,Nat.reduceSub,Nat.reduceAdd,List.replicate_succ,List.replicate_zero]
 have hSb : (enterSt .ro s0).bs = s0.bs := rfl
 have hF : (enterSt .ro s0).flr <= s0.bs.length := Nat.le_refl _
 have hH : Has s0.bs.length (enterSt .ro s0) (enterSt .ro s0) [] := Has.start (Nat.le_refl _) (Nat.le_refl _)
 generalize enterSt .ro s0 = S at *
 try change EvC _ _ _ _ _ _
 repeat refine EvC.seq ?_
 try generalize hK : SeqQ _ _ _ _ = K
 refine EvC.reg ?_
 refine EvO.mv (.inr rfl) rfl (ev rfl) (by dsimp only [Fr.put,List.set_cons_succ,List.set_cons_zero] <;> rfl) ?_
 refine EvO.mv (.inr rfl) rfl (ev rfl) (by dsimp only [Fr.put,List.set_cons_succ,List.set_cons_zero] <;> rfl) ?_
 refine EvO.mv (.inr rfl) rfl (ev rfl) (by dsimp only [Fr.put,List.set_cons_succ,List.set_cons_zero] <;> rfl) ?_
 refine EvO.nil ?_
 try subst hK
 try change EvC _ _ _ _ _ _
 try change EvC _ _ _ _ _ _
 repeat refine EvC.seq ?_
 try generalize hK : SeqQ _ _ _ _ = K
 refine EvC.reg ?_
 refine EvO.mv (.inl rfl) rfl (ev rfl) (by dsimp only [Fr.put,List.set_cons_succ,List.set_cons_zero] <;> rfl) ?_
 first | refine EvO.rlen rfl (ev rfl) (Arg.rows (by assumption) hH) rfl (by dsimp only [Fr.put,List.set_cons_succ,List.set_cons_zero] <;> rfl) ?_ | refine EvO.rlen rfl (ev rfl) (hH.rows (by first | exact at0 | exact at1 | exact at2 | exact at3 | exact at4 | exact at5 | exact at6 | exact at7)) rfl (by dsimp only [Fr.put,List.set_cons_succ,List.set_cons_zero] <;> rfl) ?_ | refine EvO.slen rfl rfl rfl (by dsimp only [Fr.put,List.set_cons_succ,List.set_cons_zero] <;> rfl) ?_ | refine EvO.go rfl rfl rfl (by dsimp only [Fr.put,List.set_cons_succ,List.set_cons_zero] <;> rfl) ?_
 try simp only [List.length_map,List.length_append,List.length_cons,List.length_nil,List.length_set,List.length_replicate,List.length_reverse]
 refine EvO.go rfl rfl rfl (by dsimp only [Fr.put,List.set_cons_succ,List.set_cons_zero] <;> rfl) ?_
 refine EvO.nil ?_
 try subst hK
 try change EvC _ _ _ _ _ _
 have hcc : decide (((b.length : Nat) : Int) > 120) = true := by rw [decide_eq_true_eq]; omega
 try change EvC _ _ _ _ _ _
 repeat refine EvC.seq ?_
 refine EvC.cond (v := true) (by first | assumption | (dsimp only [Fr.ev,Fr.get,nth,Go.V.look]; rw [hcc])) (fun _ => ?_) (fun h => by cases h)
 try change EvC _ _ _ _ _ _
 try change EvC _ _ _ _ _ _
 repeat refine EvC.seq ?_
 try generalize hK : SeqQ _ _ _ _ = K
 refine EvC.reg ?_
 refine EvO.mv (.inr rfl) rfl (ev rfl) (by dsimp only [Fr.put,List.set_cons_succ,List.set_cons_zero] <;> rfl) ?_
 refine EvO.mv (.inr rfl) rfl (ev rfl) (by dsimp only [Fr.put,List.set_cons_succ,List.set_cons_zero] <;> rfl) ?_
 refine EvO.mv (.inr rfl) rfl (ev rfl) (by dsimp only [Fr.put,List.set_cons_succ,List.set_cons_zero] <;> rfl) ?_
 refine EvO.nil ?_
 try subst hK
 try change EvC _ _ _ _ _ _
 refine EvC.ret ⟨fun i h => (by cases h),_,_,rfl,leave_ro (by simp) hSb hH (rfl),?_⟩
 rfl
theorem made14l_ev {s0 : St} {x : D} {b : List UInt8} (hx : V.Rows s0 1 x ([b].map strC)) (hlong : 120 < b.length) (hb : b.length <= 4194304) : ∃ d,Ev pv 25 [x] s0 d s0 /\ d = .tup [(pgV [] []).d, .bool false] := by
 refine Ev.mkR rfl fi25 rfl rfl rfl ?_
 dsimp only [List.cons_append,List.nil_append,List.length,Nat.reduceSub,Nat.reduceAdd,List.replicate_succ,List.replicate_zero]
 have hSb : (enterSt .ro s0).bs = s0.bs := rfl
 have hF : (enterSt .ro s0).flr <= s0.bs.length := Nat.le_refl _
 have hH : Has s0.bs.length (enterSt .ro s0) (enterSt .ro s0) [] := Has.start (Nat.le_refl _) (Nat.le_refl _)
 generalize enterSt .ro s0 = S at *
 have hx := Arg.of hx hSb
 have hpl := fun st => parseL_ev (s0 := st) hlong hb
 unfold parseD at hpl
 dsimp only at hpl
 try change EvC _ _ _ _ _ _
 repeat refine EvC.seq ?_
 try generalize hK : SeqQ _ _ _ _ = K
 refine EvC.reg ?_
 refine EvO.halloc hH rfl rfl (fun _ => by dsimp only [Fr.put,List.set_cons_succ,List.set_cons_zero] <;> rfl) (fun k2 st hk2 hH => ?_)
 try dsimp only [List.set_cons_zero,List.set_cons_succ,List.cons_append,List.nil_append,setMany,List.map_cons,List.map_nil,D.cells,Nat.reduceAdd,List.nil_append,partC,compD,Pg.d,Pg.cs,pgV,parseD] at hH
 refine EvO.mv (.inr rfl) rfl (ev rfl) (by dsimp only [Fr.put,List.set_cons_succ,List.set_cons_zero] <;> rfl) ?_
 refine EvO.nil ?_
 try subst hK
 try change EvC _ _ _ _ _ _
 try change EvC _ _ _ _ _ _
 repeat refine EvC.seq ?_
 try generalize hK : SeqQ _ _ _ _ = K
 refine EvC.reg ?_
 refine EvO.mv (.inr rfl) rfl (ev rfl) (by dsimp only [Fr.put,List.set_cons_succ,List.set_cons_zero] <;> rfl) ?_
 refine EvO.nil ?_
 try subst hK
 try change EvC _ _ _ _ _ _
 try change EvC _ _ _ _ _ _
 repeat refine EvC.seq ?_
 try generalize hK : SeqQ _ _ _ _ = K
 refine EvC.reg ?_
 refine EvO.mv (.inr rfl) rfl (ev rfl) (by dsimp only [Fr.put,List.set_cons_succ,List.set_cons_zero] <;> rfl) ?_
 refine EvO.nil ?_
 try subst hK
 try change EvC _ _ _ _ _ _
 try change EvC _ _ _ _ _ _
 repeat refine EvC.seq ?_
 refine EvC.block ?_
 refine EvC.loop (fun mm fr st => ∃ (i : Nat),fr.clean = ⟨11, [x,ixF_BackEitherLaw fr 1, .ptr k2 0 0, .bool false, .nul, .int .i64 (i : Nat),ixF_BackEitherLaw fr 6,ixF_BackEitherLaw fr 7,ixF_BackEitherLaw fr 8,ixF_BackEitherLaw fr 9,ixF_BackEitherLaw fr 10], []⟩ /\ Has s0.bs.length S st [.box k2 (.mem 0 false [.nul, .nul])] /\ (i + mm = 1) /\ (i = 0)) (1) ?_ ?_
 ·exact ⟨0,rfl,hH,by omega,rfl⟩
 rintro mm fr st ⟨i,hfr,hH,hi,hi0⟩
 rw [hfr]
 clear hfr
 try generalize ixF_BackEitherLaw fr = ee
 clear fr
 try change EvC _ _ _ _ _ _
 subst hi0
 try change EvC _ _ _ _ _ _
 repeat refine EvC.seq ?_
 try generalize hK : SeqQ _ _ _ _ = K
 refine EvC.reg ?_
 refine EvO.mv (.inl rfl) rfl (ev rfl) (put_T rfl _) ?_
 refine EvO.mv (.inl rfl) rfl (ev rfl) (put_T rfl _) ?_
 first | refine EvO.rlen rfl (ev rfl) (Arg.rows (by assumption) hH) rfl (put_T rfl _) ?_ | refine EvO.rlen rfl (ev rfl) (hH.rows (by first | exact at0 | exact at1 | exact at2 | exact at3 | exact at4 | exact at5 | exact at6 | exact at7)) rfl (put_T rfl _) ?_ | refine EvO.slen rfl rfl rfl (put_T rfl _) ?_ | refine EvO.go rfl rfl rfl (put_T rfl _) ?_
 try simp only [List.length_map,List.length_append,List.length_cons,List.length_nil,List.length_set,List.length_replicate,List.length_reverse]
 refine EvO.go rfl rfl rfl (put_T rfl _) ?_
 refine EvO.nil ?_
 try subst hK
 try change EvC _ _ _ _ _ _
 have hr1 : ([b].map strC)[0]? = some (strC b) := rfl
 try change EvC _ _ _ _ _ _
 repeat refine EvC.seq ?_
 refine EvC.cond (v := true) (by first | assumption | (dsimp only [Fr.ev,Fr.get,nth,Go.V.look]; rfl)) (fun _ => ?_) (fun h => by cases h)
 try change EvC _ _ _ _ _ _
 refine EvC.skip ?_
 try change EvC _ _ _ _ _ _
 try change EvC _ _ _ _ _ _
 repeat refine EvC.seq ?_
 refine EvC.block ?_
 try change EvC _ _ _ _ _ _
 repeat refine EvC.seq ?_
 try generalize hK : SeqQ _ _ _ _ = K
 refine EvC.reg ?_
 refine EvO.mv (.inl rfl) rfl (ev rfl) (put_T rfl _) ?_
 refine EvO.mv (.inl rfl) rfl (ev rfl) (put_T rfl _) ?_
 first | refine EvO.ridx rfl (ev rfl) (ev rfl) (Arg.rows (by assumption) hH) rfl rfl (by assumption) (fun _ => (put_T rfl _)) (fun p21 hp21 => ?_) | refine EvO.oidx hH rfl (ev rfl) (ev rfl) (by first | exact at0 | exact at1 | exact at2 | exact at3 | exact at4 | exact at5 | exact at6 | exact at7) rfl rfl (by first | exact lt_get (by assumption) | omega | (simp only [List.length_map,List.length_append,List.length_cons,List.length_nil,List.length_set,List.length_replicate] <;> omega)) (fun _ => (put_T rfl _)) (fun p21 hp21 => ?_)
 first | refine EvO.rload rfl (ev rfl) (by assumption) rfl (put_T rfl _) ?_ | refine EvO.oload hH rfl (ev rfl) (by assumption) (by first | exact at0 | exact at1 | exact at2 | exact at3 | exact at4 | exact at5 | exact at6 | exact at7) (by assumption) rfl (put_T rfl _) ?_ | refine EvO.hload hH rfl (ev rfl) (by first | exact at0 | exact at1 | exact at2 | exact at3 | exact at4 | exact at5 | exact at6 | exact at7) rfl (put_T rfl _) ?_
 refine EvO.hcall rfl rfl ((hpl _)) (put_T rfl _) ?_
 refine EvO.mv (.inl rfl) rfl (ev rfl) (put_T rfl _) ?_
 refine EvO.go rfl rfl rfl (put_T rfl _) ?_
 refine EvO.go rfl rfl rfl (put_T rfl _) ?_
 refine EvO.go rfl rfl rfl (put_T rfl _) ?_
 refine EvO.mv (.inr rfl) rfl (ev rfl) (by dsimp only [Fr.put,List.set_cons_succ,List.set_cons_zero] <;> rfl) ?_
 refine EvO.mv (.inr rfl) rfl (ev rfl) (by dsimp only [Fr.put,List.set_cons_succ,List.set_cons_zero] <;> rfl) ?_
 refine EvO.mv (.inr rfl) rfl (ev rfl) (by dsimp only [Fr.put,List.set_cons_succ,List.set_cons_zero] <;> rfl) ?_
 refine EvO.nil ?_
 try subst hK
 try change EvC _ _ _ _ _ _
 try change EvC _ _ _ _ _ _
 repeat refine EvC.seq ?_
 try generalize hK : SeqQ _ _ _ _ = K
 refine EvC.reg ?_
 refine EvO.mv (.inl rfl) rfl (ev rfl) (put_T rfl _) ?_
 refine EvO.go rfl rfl rfl (put_T rfl _) ?_
 refine EvO.nil ?_
 try subst hK
 try change EvC _ _ _ _ _ _
 try change EvC _ _ _ _ _ _
 repeat refine EvC.seq ?_
 refine EvC.cond (v := true) (by first | assumption | (dsimp only [Fr.ev,Fr.get,nth,Go.V.look]; rfl)) (fun _ => ?_) (fun h => by cases h)
 try change EvC _ _ _ _ _ _
 try change EvC _ _ _ _ _ _
 repeat refine EvC.seq ?_
 try generalize hK : SeqQ _ _ _ _ = K
 refine EvC.reg ?_
 refine EvO.go (d := .agg [.nul, .nul]) (st1 := _) rfl rfl rfl (put_T rfl _) ?_
 refine EvO.hstoreA hH rfl (ev rfl) (ev rfl) (by first | rfl | exact (SlD.cells (by assumption)).1 | exact hH.ocells (by first | exact at0 | exact at1 | exact at2 | exact at3 | exact at4 | exact at5 | exact at6 | exact at7) | exact hH.dcells (by first | exact at0 | exact at1 | exact at2 | exact at3 | exact at4 | exact at5 | exact at6 | exact at7) | assumption) (by exact rfl) (by first | exact at0 | exact at1 | exact at2 | exact at3 | exact at4 | exact at5 | exact at6 | exact at7) (by exact rfl) (by first | exact .inl hF | exact .inr rfl | exact .inr (by assumption)) (fun st hH => ?_)
 try dsimp only [List.set_cons_zero,List.set_cons_succ,List.cons_append,List.nil_append,setMany,List.map_cons,List.map_nil,D.cells,Nat.reduceAdd,List.nil_append,partC,compD,Pg.d,Pg.cs,pgV,parseD] at hH
 refine EvO.mv (.inr rfl) rfl (ev rfl) (by dsimp only [Fr.put,List.set_cons_succ,List.set_cons_zero] <;> rfl) ?_
 refine EvO.nil ?_
 try subst hK
 try change EvC _ _ _ _ _ _
 refine EvC.ret ⟨fun i h => (by cases h),_,_,hH.resCellT rfl at0 rfl rfl,leave_ro (by simp) hSb hH (show _ = some (D.tup [(pgV [] []).d, .bool false]) from rfl),rfl⟩
theorem made14w_ev {s0 : St} {x : D} {b : List UInt8} (hx : V.Rows s0 1 x ([b].map strC)) (hb : b.length <= 4194304) : ∃ d,Ev pv 25 [x] s0 d s0 /\ ∃ (p : Pg) (ok : Bool),d = .tup [p.d, .bool ok] /\ p.ok /\ p.code.length <= 400 /\ (ok = true -> (compileS (partsX [b])).e = 0 /\ p = pgV (compileS (partsX [b])).code (compileS (partsX [b])).starts /\ RightQ p) := by
 by_cases hl : 120 < b.length
 ·obtain ⟨d,h1,h2⟩ := made14l_ev hx hl hb
  exact ⟨d,h1,pgV [] [],false,h2,pgV_ok (fun i hi => (by cases hi)) (by simp) (by simp),by simp [pgV],fun h => by cases h⟩
 ·exact made14r_ev hx (by simp) (fun x hx => by simp only [List.mem_cons,List.not_mem_nil,or_false] at hx; subst hx; omega)
def whF : Option Cps -> Int × Int
 | none => (-1, -1)
 | some f => (f 0,f 1)
theorem whole_ev {s0 : St} (b : List UInt8) (hb : b.length <= 4194304) (c : List UInt8) (hcl : c.length <= 60) : ∃ d,Ev pv 29 [.str b, .str c] s0 d s0 /\ ∃ (ok : Bool) (ij : Int × Int),d = .tup [.int .i64 ij.1, .int .i64 ij.2, .bool ok] /\ (ok = true -> (compileS [(parseX b).1]).e = 0 /\ RightQ (pgV (compileS [(parseX b).1]).code (compileS [(parseX b).1]).starts) /\ ij = whF (progFind (pgV (compileS [(parseX b).1]).code (compileS [(parseX b).1]).starts) 0 c)) := by
 obtain ⟨hal,_⟩ := allS_len _ c (Nat.le_refl _)
 have hfx : ∀ (p : Pg) (hp : p.ok) (hpl : p.code.length <= 400) (r : Int) (st : St),Ev pv 27 [.agg [p.cd,p.sd], .int .i64 r, .str c] st (outC (progFind p r c)) st := by
  intro p hp hpl r st
  have hsz : ((allS c).length + 1) * p.code.length <= 134217728 := Nat.le_trans (Nat.mul_le_mul (show (allS c).length + 1 <= 61 by omega) (show p.code.length <= 400 by omega)) (by decide)
  exact find3_ev (s0 := st) hp r (b := c) (by omega) hsz
 refine Ev.mkR rfl fi29 rfl rfl rfl ?_
 dsimp only [List.cons_append,List.nil_append,List.length,Nat.reduceSub,Nat.reduceAdd,List.replicate_succ,List.replicate_zero]
 have hSb : (enterSt .ro s0).bs = s0.bs := rfl
 have hF : (enterSt .ro s0).flr <= s0.bs.length := Nat.le_refl _
 have hH : Has s0.bs.length (enterSt .ro s0) (enterSt .ro s0) [] := Has.start (Nat.le_refl _) (Nat.le_refl _)
 generalize enterSt .ro s0 = S at *
 try change EvC _ _ _ _ _ _
 repeat refine EvC.seq ?_
 try generalize hK : SeqQ _ _ _ _ = K
 refine EvC.reg ?_
 refine EvO.mv (.inr rfl) rfl (ev rfl) (by dsimp only [Fr.put,List.set_cons_succ,List.set_cons_zero] <;> rfl) ?_
 refine EvO.mv (.inr rfl) rfl (ev rfl) (by dsimp only [Fr.put,List.set_cons_succ,List.set_cons_zero] <;> rfl) ?_
 refine EvO.mv (.inr rfl) rfl (ev rfl) (by dsimp only [Fr.put,List.set_cons_succ,List.set_cons_zero] <;> rfl) ?_
 refine EvO.nil ?_
 try subst hK
 try change EvC _ _ _ _ _ _
 try change EvC _ _ _ _ _ _
 repeat refine EvC.seq ?_
 try generalize hK : SeqQ _ _ _ _ = K
 refine EvC.reg ?_
 refine EvO.mv (.inl rfl) rfl (ev rfl) (put_T rfl _) ?_
 refine EvO.hlist (s := 1) (vs := [_]) hH rfl rfl rfl rfl rfl (Nat.le_of_ble_eq_true rfl) ⟨rfl,(ev rfl),trivial⟩ rfl (by intro v hv; first | (cases hv; done) | (simp only [List.mem_cons,List.not_mem_nil,or_false] at hv; rcases hv with rfl <;> exact ⟨rfl,rfl⟩)) (fun _ => (put_T rfl _)) (fun k13 st hk13 hH => ?_)
 try dsimp only [List.set_cons_zero,List.set_cons_succ,List.cons_append,List.nil_append,setMany,List.map_cons,List.map_nil,D.cells,Nat.reduceAdd,List.nil_append,Pg.cs,Pg.d,capsC] at hH
 obtain ⟨_,hev,p,ok,rfl,hp,hpl,hpx⟩ := made14w_ev (s0 := st) (b := b) (hH.rows at0) hb
 have hcp := hp.c
 have hsp := hp.s
 unfold Pg.d at hev
 refine EvO.hcall rfl rfl hev (put_T rfl _) ?_
 refine EvO.mv (.inl rfl) rfl (ev rfl) (put_T rfl _) ?_
 refine EvO.go rfl rfl rfl (put_T rfl _) ?_
 refine EvO.go rfl rfl rfl (put_T rfl _) ?_
 refine EvO.halloc hH rfl rfl (fun _ => by dsimp only [Fr.put,List.set_cons_succ,List.set_cons_zero] <;> rfl) (fun k7 st hk7 hH => ?_)
 try dsimp only [List.set_cons_zero,List.set_cons_succ,List.cons_append,List.nil_append,setMany,List.map_cons,List.map_nil,D.cells,Nat.reduceAdd,List.nil_append,Pg.cs,Pg.d,capsC] at hH
 refine EvO.hstoreA hH rfl (ev rfl) (ev rfl) (by first | rfl | exact (SlD.cells (by assumption)).1 | exact hH.ocells (by first | exact at0 | exact at1 | exact at2 | exact at3 | exact at4 | exact at5 | exact at6 | exact at7) | exact hH.dcells (by first | exact at0 | exact at1 | exact at2 | exact at3 | exact at4 | exact at5 | exact at6 | exact at7) | assumption) (by exact rfl) (by first | exact at0 | exact at1 | exact at2 | exact at3 | exact at4 | exact at5 | exact at6 | exact at7) (by exact rfl) (by first | exact .inl hF | exact .inr rfl | exact .inr (by assumption)) (fun st hH => ?_)
 try dsimp only [List.set_cons_zero,List.set_cons_succ,List.cons_append,List.nil_append,setMany,List.map_cons,List.map_nil,D.cells,Nat.reduceAdd,List.nil_append,Pg.cs,Pg.d,capsC] at hH
 refine EvO.mv (.inr rfl) rfl (ev rfl) (by dsimp only [Fr.put,List.set_cons_succ,List.set_cons_zero] <;> rfl) ?_
 refine EvO.nil ?_
 try subst hK
 try change EvC _ _ _ _ _ _
 have hf := hfx p hp hpl 0
 have hpx : ok = true -> (compileS [(parseX b).1]).e = 0 /\ RightQ (pgV (compileS [(parseX b).1]).code (compileS [(parseX b).1]).starts) /\ progFind p 0 c = progFind (pgV (compileS [(parseX b).1]).code (compileS [(parseX b).1]).starts) 0 c := fun h => by
  obtain ⟨h1,h2,h3⟩ := hpx h
  rw [h2] at h3
  exact ⟨h1,h3,by rw [h2]; rfl⟩
 generalize progFind p 0 c = X at *
 cases X with
 | none =>
  change ∀ st,Ev pv _ _ st (.tup [.agg (capsC zeroCaps), .bool false]) st at hf
  try change EvC _ _ _ _ _ _
  repeat refine EvC.seq ?_
  try generalize hK : SeqQ _ _ _ _ = K
  refine EvC.reg ?_
  first | refine EvO.hloadS (m := 2) hH rfl (ev rfl) (by first | exact at0 | exact at1 | exact at2 | exact at3 | exact at4 | exact at5 | exact at6 | exact at7) (by dsimp only [List.drop_succ_cons,List.drop_zero,List.take_succ_cons,List.take_zero,Pg.cs,Pg.d,capsC] <;> rfl) rfl rfl (put_T rfl _) ?_ | refine EvO.rload rfl (ev rfl) (by assumption) rfl (put_T rfl _) ?_ | refine EvO.oload hH rfl (ev rfl) (by assumption) (by first | exact at0 | exact at1 | exact at2 | exact at3 | exact at4 | exact at5 | exact at6 | exact at7) (by assumption) rfl (put_T rfl _) ?_
  refine EvO.mv (.inl rfl) rfl (ev rfl) (put_T rfl _) ?_
  refine EvO.hcall rfl rfl ((hf _)) (put_T rfl _) ?_
  refine EvO.mv (.inl rfl) rfl (ev rfl) (put_T rfl _) ?_
  refine EvO.go rfl rfl rfl (put_T rfl _) ?_
  refine EvO.go rfl rfl rfl (put_T rfl _) ?_
  refine EvO.halloc hH rfl rfl (fun _ => by dsimp only [Fr.put,List.set_cons_succ,List.set_cons_zero] <;> rfl) (fun k9 st hk9 hH => ?_)
  try dsimp only [List.set_cons_zero,List.set_cons_succ,List.cons_append,List.nil_append,setMany,List.map_cons,List.map_nil,D.cells,Nat.reduceAdd,List.nil_append,Pg.cs,Pg.d,capsC] at hH
  refine EvO.hstoreA hH rfl (ev rfl) (ev rfl) (by first | rfl | exact (SlD.cells (by assumption)).1 | exact hH.ocells (by first | exact at0 | exact at1 | exact at2 | exact at3 | exact at4 | exact at5 | exact at6 | exact at7) | exact hH.dcells (by first | exact at0 | exact at1 | exact at2 | exact at3 | exact at4 | exact at5 | exact at6 | exact at7) | assumption) (by exact rfl) (by first | exact at0 | exact at1 | exact at2 | exact at3 | exact at4 | exact at5 | exact at6 | exact at7) (by exact rfl) (by first | exact .inl hF | exact .inr rfl | exact .inr (by assumption)) (fun st hH => ?_)
  try dsimp only [List.set_cons_zero,List.set_cons_succ,List.cons_append,List.nil_append,setMany,List.map_cons,List.map_nil,D.cells,Nat.reduceAdd,List.nil_append,Pg.cs,Pg.d,capsC] at hH
  refine EvO.mv (.inr rfl) rfl (ev rfl) (by dsimp only [Fr.put,List.set_cons_succ,List.set_cons_zero] <;> rfl) ?_
  refine EvO.nil ?_
  try subst hK
  try change EvC _ _ _ _ _ _
  try change EvC _ _ _ _ _ _
  repeat refine EvC.seq ?_
  try generalize hK : SeqQ _ _ _ _ = K
  refine EvC.reg ?_
  refine EvO.mv (.inl rfl) rfl (ev rfl) (put_T rfl _) ?_
  refine EvO.go rfl rfl rfl (put_T rfl _) ?_
  refine EvO.nil ?_
  try subst hK
  try change EvC _ _ _ _ _ _
  try change EvC _ _ _ _ _ _
  repeat refine EvC.seq ?_
  refine EvC.cond (v := true) (by first | rfl | assumption) (fun _ => ?_) (fun h => by cases h)
  try change EvC _ _ _ _ _ _
  try change EvC _ _ _ _ _ _
  repeat refine EvC.seq ?_
  try generalize hK : SeqQ _ _ _ _ = K
  refine EvC.reg ?_
  refine EvO.mv (.inl rfl) rfl (ev rfl) (put_T rfl _) ?_
  refine EvO.mv (.inr rfl) rfl (ev rfl) (by dsimp only [Fr.put,List.set_cons_succ,List.set_cons_zero] <;> rfl) ?_
  refine EvO.mv (.inr rfl) rfl (ev rfl) (by dsimp only [Fr.put,List.set_cons_succ,List.set_cons_zero] <;> rfl) ?_
  refine EvO.mv (.inr rfl) rfl (ev rfl) (by dsimp only [Fr.put,List.set_cons_succ,List.set_cons_zero] <;> rfl) ?_
  refine EvO.nil ?_
  try subst hK
  try change EvC _ _ _ _ _ _
  refine EvC.ret ⟨fun i h => (by cases h),_,_,rfl,leave_ro (by simp) hSb hH (rfl),?_⟩
  exact ⟨ok,(-1, -1),rfl,fun h => ⟨(hpx h).1,(hpx h).2.1,by rw [<- (hpx h).2.2]; rfl⟩⟩
 | some f =>
  change ∀ st,Ev pv _ _ st (.tup [.agg (capsC f), .bool true]) st at hf
  try change EvC _ _ _ _ _ _
  repeat refine EvC.seq ?_
  try generalize hK : SeqQ _ _ _ _ = K
  refine EvC.reg ?_
  first | refine EvO.hloadS (m := 2) hH rfl (ev rfl) (by first | exact at0 | exact at1 | exact at2 | exact at3 | exact at4 | exact at5 | exact at6 | exact at7) (by dsimp only [List.drop_succ_cons,List.drop_zero,List.take_succ_cons,List.take_zero,Pg.cs,Pg.d,capsC] <;> rfl) rfl rfl (put_T rfl _) ?_ | refine EvO.rload rfl (ev rfl) (by assumption) rfl (put_T rfl _) ?_ | refine EvO.oload hH rfl (ev rfl) (by assumption) (by first | exact at0 | exact at1 | exact at2 | exact at3 | exact at4 | exact at5 | exact at6 | exact at7) (by assumption) rfl (put_T rfl _) ?_
  refine EvO.mv (.inl rfl) rfl (ev rfl) (put_T rfl _) ?_
  refine EvO.hcall rfl rfl ((hf _)) (put_T rfl _) ?_
  refine EvO.mv (.inl rfl) rfl (ev rfl) (put_T rfl _) ?_
  refine EvO.go rfl rfl rfl (put_T rfl _) ?_
  refine EvO.go rfl rfl rfl (put_T rfl _) ?_
  refine EvO.halloc hH rfl rfl (fun _ => by dsimp only [Fr.put,List.set_cons_succ,List.set_cons_zero] <;> rfl) (fun k9 st hk9 hH => ?_)
  try dsimp only [List.set_cons_zero,List.set_cons_succ,List.cons_append,List.nil_append,setMany,List.map_cons,List.map_nil,D.cells,Nat.reduceAdd,List.nil_append,Pg.cs,Pg.d,capsC] at hH
  refine EvO.hstoreA hH rfl (ev rfl) (ev rfl) (by first | rfl | exact (SlD.cells (by assumption)).1 | exact hH.ocells (by first | exact at0 | exact at1 | exact at2 | exact at3 | exact at4 | exact at5 | exact at6 | exact at7) | exact hH.dcells (by first | exact at0 | exact at1 | exact at2 | exact at3 | exact at4 | exact at5 | exact at6 | exact at7) | assumption) (by exact rfl) (by first | exact at0 | exact at1 | exact at2 | exact at3 | exact at4 | exact at5 | exact at6 | exact at7) (by exact rfl) (by first | exact .inl hF | exact .inr rfl | exact .inr (by assumption)) (fun st hH => ?_)
  try dsimp only [List.set_cons_zero,List.set_cons_succ,List.cons_append,List.nil_append,setMany,List.map_cons,List.map_nil,D.cells,Nat.reduceAdd,List.nil_append,Pg.cs,Pg.d,capsC] at hH
  refine EvO.mv (.inr rfl) rfl (ev rfl) (by dsimp only [Fr.put,List.set_cons_succ,List.set_cons_zero] <;> rfl) ?_
  refine EvO.nil ?_
  try subst hK
  try change EvC _ _ _ _ _ _
  try change EvC _ _ _ _ _ _
  repeat refine EvC.seq ?_
  try generalize hK : SeqQ _ _ _ _ = K
  refine EvC.reg ?_
  refine EvO.mv (.inl rfl) rfl (ev rfl) (put_T rfl _) ?_
  refine EvO.go rfl rfl rfl (put_T rfl _) ?_
  refine EvO.nil ?_
  try subst hK
  try change EvC _ _ _ _ _ _
  try change EvC _ _ _ _ _ _
  repeat refine EvC.seq ?_
  refine EvC.cond (v := false) (by first | rfl | assumption) (fun h => by cases h) (fun _ => ?_)
  try change EvC _ _ _ _ _ _
  refine EvC.skip ?_
  try change EvC _ _ _ _ _ _
  try change EvC _ _ _ _ _ _
  repeat refine EvC.seq ?_
  try generalize hK : SeqQ _ _ _ _ = K
  refine EvC.reg ?_
  refine EvO.go (d := .ptr k9 0 0) (st1 := _) rfl rfl rfl (put_T rfl _) ?_
  refine EvO.hload (d := .int .i64 (f 0)) hH rfl rfl at0 rfl (put_T rfl _) ?_
  refine EvO.go (d := .ptr k9 0 1) (st1 := _) rfl rfl rfl (put_T rfl _) ?_
  refine EvO.hload (d := .int .i64 (f 1)) hH rfl rfl at0 rfl (put_T rfl _) ?_
  refine EvO.mv (.inl rfl) rfl (ev rfl) (put_T rfl _) ?_
  refine EvO.mv (.inr rfl) rfl (ev rfl) (by dsimp only [Fr.put,List.set_cons_succ,List.set_cons_zero] <;> rfl) ?_
  refine EvO.mv (.inr rfl) rfl (ev rfl) (by dsimp only [Fr.put,List.set_cons_succ,List.set_cons_zero] <;> rfl) ?_
  refine EvO.mv (.inr rfl) rfl (ev rfl) (by dsimp only [Fr.put,List.set_cons_succ,List.set_cons_zero] <;> rfl) ?_
  refine EvO.nil ?_
  try subst hK
  try change EvC _ _ _ _ _ _
  refine EvC.ret ⟨fun i h => (by cases h),_,_,rfl,leave_ro (by simp) hSb hH (rfl),?_⟩
  exact ⟨ok,(f 0,f 1),rfl,fun h => ⟨(hpx h).1,(hpx h).2.1,by rw [<- (hpx h).2.2]; rfl⟩⟩
theorem whF_eith {r1 r2 r3 : Option Cps} (h : wh r3 = eith (wh r1) (wh r2)) (n1 : ∀ f,r1 = some f -> 0 <= f 0) (n2 : ∀ f,r2 = some f -> 0 <= f 0) : whF r3 = if 0 <= (whF r1).1 /\ ((whF r2).1 < 0 \/ (whF r1).1 <= (whF r2).1) then whF r1 else whF r2 := by
 have e : ∀ r,whF r = (match wh r with | none => (-1, -1) | some q => q) := fun r => by cases r <;> rfl
 rw [e r3,h]
 cases r1 with
 | none =>
  rw [if_neg (by show ¬ (0 <= (-1 : Int) /\ _); omega)]
  cases r2 <;> rfl
 | some f =>
  have h1 := n1 f rfl
  cases r2 with
  | none =>
   rw [if_pos ⟨h1, .inl (by show (-1 : Int) < 0; omega)⟩]; rfl
  | some g =>
   have h2 := n2 g rfl
   show (match (if f 0 <= g 0 then some (f 0,f 1) else some (g 0,g 1)) with | none => _ | some q => q) = if 0 <= f 0 /\ (g 0 < 0 \/ f 0 <= g 0) then (f 0,f 1) else (g 0,g 1)
   by_cases h3 : f 0 <= g 0
   ·rw [if_pos h3,if_pos ⟨h1, .inr h3⟩]
   ·rw [if_neg h3,if_neg (by omega)]
theorem allF_pos : ∀ (n : Nat) (b : List UInt8), ∀ g ∈ allF n b,1 <= g.2
 | 0,b => fun g hg => by cases b <;> simp [allF] at hg
 | n + 1, [] => fun g hg => by simp [allF] at hg
 | n + 1,c :: xs => fun g hg => by
  simp only [allF,List.mem_cons] at hg
  rcases hg with rfl | hg
  ·exact oneS_pos (c :: xs)
  ·exact allF_pos n _ g hg
theorem either_law {A B C c : List UInt8} (hC : C = A ++ 124 :: B) (e1 : (compileS [(parseX A).1]).e = 0) (e2 : (compileS [(parseX B).1]).e = 0) (e3 : (compileS [(parseX C).1]).e = 0) (R1 : RightQ (pgV (compileS [(parseX A).1]).code (compileS [(parseX A).1]).starts)) (R2 : RightQ (pgV (compileS [(parseX B).1]).code (compileS [(parseX B).1]).starts)) (R3 : RightQ (pgV (compileS [(parseX C).1]).code (compileS [(parseX C).1]).starts)) {ij kl mn : Int × Int} (h1 : ij = whF (progFind (pgV (compileS [(parseX A).1]).code (compileS [(parseX A).1]).starts) 0 c)) (h2 : kl = whF (progFind (pgV (compileS [(parseX B).1]).code (compileS [(parseX B).1]).starts) 0 c)) (h3 : mn = whF (progFind (pgV (compileS [(parseX C).1]).code (compileS [(parseX C).1]).starts) 0 c)) : mn = if 0 <= ij.1 /\ (kl.1 < 0 \/ ij.1 <= kl.1) then ij else kl := by
 obtain ⟨_,la,pa,qa⟩ := parse_ok (parse_comp e1)
 obtain ⟨_,lb,pb,qb⟩ := parse_ok (parse_comp e2)
 obtain ⟨_,lc,pc,qc⟩ := parse_ok (parse_comp e3)
 have hal : allS C = allS A ++ (124,1) :: allS B := by
  rw [hC,all_app (by decide) B A.length A (Nat.le_refl _),all_ascii (by decide)]; rfl
 rw [qa] at e1 R1 h1
 rw [qb] at e2 R2 h2
 rw [qc] at e3 R3 h3
 obtain ⟨ra,ca,sa⟩ := compile_one_ok e1
 obtain ⟨rb,cb,sb⟩ := compile_one_ok e2
 obtain ⟨rc,cc,sc⟩ := compile_one_ok e3
 rw [ca,sa] at R1 h1
 rw [cb,sb] at R2 h2
 rw [cc,sc] at R3 h3
 have hw : ∀ (t : Tr),RightQ (pgV (ruleC t 0 0) [0]) -> WR (allS c) t (wh (progFind (pgV (ruleC t 0 0) [0]) 0 c)) := fun t hR => by
  obtain ⟨s',h⟩ := find_run (p := pgV (ruleC t 0 0) [0]) hR (r := 0) (start := 0) rfl c
  exact ⟨_,s',h,rfl⟩
 have hn : ∀ (l : List Nod),rightN l = true -> ∀ f,progFind (pgV (ruleC (treeN l) 0 0) [0]) 0 c = some f -> 0 <= f 0 := fun l hl f hf => by
  obtain ⟨i,a,_,_,h0,_⟩ := (find_places (tree_is hl).1 hf).w
  rw [h0]; exact plS_ge _ _
 have hk := (bar_find (gs := allS c) (allF_pos _ c) hal pa pb pc ra rb rc (hw _ R1) (hw _ R2)).one (hw _ R3)
 rw [h1,h2,h3]
 exact whF_eith hk.symm (hn _ ra) (hn _ rb)
theorem law {s0 : St} (a : List UInt8) (ha : a.length <= 1048576) (b : List UInt8) (hb : b.length <= 1048576) (t : List UInt8) (ht : t.length <= 1048576) : Ev pv 7 [.str a, .str b, .str t] s0 (.bool true) s0 := by
 suffices hg : ∃ d,Ev pv 7 [.str a, .str b, .str t] s0 d s0 /\ d = .bool true by
  obtain ⟨d,h1,rfl⟩ := hg
  exact h1
 refine Ev.mkR rfl fi7 rfl rfl rfl ?_
 dsimp only [List.cons_append,List.nil_append,List.length,Nat.reduceSub,Nat.reduceAdd,List.replicate_succ,List.replicate_zero]
 have hSb : (enterSt .ro s0).bs = s0.bs := rfl
 have hF : (enterSt .ro s0).flr <= s0.bs.length := Nat.le_refl _
 have hH : Has s0.bs.length (enterSt .ro s0) (enterSt .ro s0) [] := Has.start (Nat.le_refl _) (Nat.le_refl _)
 generalize enterSt .ro s0 = S at *
 try change EvC _ _ _ _ _ _
 repeat refine EvC.seq ?_
 try generalize hK : SeqQ _ _ _ _ = K
 refine EvC.reg ?_
 refine EvO.mv (.inr rfl) rfl (ev rfl) (by dsimp only [Fr.put,List.set_cons_succ,List.set_cons_zero] <;> rfl) ?_
 refine EvO.nil ?_
 try subst hK
 try change EvC _ _ _ _ _ _
 try change EvC _ _ _ _ _ _
 repeat refine EvC.seq ?_
 try generalize hK : SeqQ _ _ _ _ = K
 refine EvC.reg ?_
 refine EvO.mv (.inl rfl) rfl (ev rfl) (put_T rfl _) ?_
 refine EvO.hcall rfl rfl (head_ev t) (put_T rfl _) ?_
 refine EvO.mv (.inr rfl) rfl (ev rfl) (by dsimp only [Fr.put,List.set_cons_succ,List.set_cons_zero] <;> rfl) ?_
 refine EvO.nil ?_
 try subst hK
 try change EvC _ _ _ _ _ _
 obtain ⟨c,hcb⟩ : ∃ c,t.take 60 = c := ⟨_,rfl⟩
 have hcl : c.length <= 60 := by rw [<- hcb,List.length_take]; omega
 rw [hcb]
 clear hcb
 have hb1 : ([40,63,58] ++ a) ++ [41] = brk a [] := by simp [brk]
 have hb2 : ([40,63,58] ++ b) ++ [41] = brk b [] := by simp [brk]
 have hb3 : ((([40,63,58] ++ a) ++ [41,124,40,63,58]) ++ b) ++ [41] = brk a [] ++ 124 :: brk b [] := by simp [brk]
 have hl1 : (brk a []).length <= 1048580 := by simp [brk]; omega
 have hl2 : (brk b []).length <= 1048580 := by simp [brk]; omega
 have hl3 : (brk a [] ++ 124 :: brk b []).length <= 4194304 := by simp only [List.length_append,List.length_cons]; omega
 try change EvC _ _ _ _ _ _
 repeat refine EvC.seq ?_
 try generalize hK : SeqQ _ _ _ _ = K
 refine EvC.reg ?_
 refine EvO.mv (.inl rfl) rfl (ev rfl) (put_T rfl _) ?_
 refine EvO.addS (x := [40,63,58]) (y := a) rfl rfl (ev rfl) (ev rfl) (by simp <;> omega) ?_
 refine EvO.addS (x := [40,63,58] ++ a) (y := [41]) rfl rfl (ev rfl) (ev rfl) (by simp <;> omega) ?_
 refine EvO.mv (.inl rfl) rfl (ev rfl) (put_T rfl _) ?_
 obtain ⟨_,hev,x,⟨i,j⟩,rfl,hx⟩ := whole_ev (s0 := S) (brk a []) (by omega) c hcl
 rw [<- hb1] at hev
 refine EvO.hcall rfl rfl hev (put_T rfl _) ?_
 refine EvO.mv (.inl rfl) rfl (ev rfl) (put_T rfl _) ?_
 refine EvO.go rfl rfl rfl (put_T rfl _) ?_
 refine EvO.go rfl rfl rfl (put_T rfl _) ?_
 refine EvO.go rfl rfl rfl (put_T rfl _) ?_
 refine EvO.mv (.inr rfl) rfl (ev rfl) (by dsimp only [Fr.put,List.set_cons_succ,List.set_cons_zero] <;> rfl) ?_
 refine EvO.mv (.inr rfl) rfl (ev rfl) (by dsimp only [Fr.put,List.set_cons_succ,List.set_cons_zero] <;> rfl) ?_
 refine EvO.mv (.inr rfl) rfl (ev rfl) (by dsimp only [Fr.put,List.set_cons_succ,List.set_cons_zero] <;> rfl) ?_
 refine EvO.nil ?_
 try subst hK
 try change EvC _ _ _ _ _ _
 try change EvC _ _ _ _ _ _
 repeat refine EvC.seq ?_
 try generalize hK : SeqQ _ _ _ _ = K
 refine EvC.reg ?_
 refine EvO.mv (.inl rfl) rfl (ev rfl) (put_T rfl _) ?_
 refine EvO.addS (x := [40,63,58]) (y := b) rfl rfl (ev rfl) (ev rfl) (by simp <;> omega) ?_
 refine EvO.addS (x := [40,63,58] ++ b) (y := [41]) rfl rfl (ev rfl) (ev rfl) (by simp <;> omega) ?_
 refine EvO.mv (.inl rfl) rfl (ev rfl) (put_T rfl _) ?_
 obtain ⟨_,hev,y,⟨k,l⟩,rfl,hy⟩ := whole_ev (s0 := S) (brk b []) (by omega) c hcl
 rw [<- hb2] at hev
 refine EvO.hcall rfl rfl hev (put_T rfl _) ?_
 refine EvO.mv (.inl rfl) rfl (ev rfl) (put_T rfl _) ?_
 refine EvO.go rfl rfl rfl (put_T rfl _) ?_
 refine EvO.go rfl rfl rfl (put_T rfl _) ?_
 refine EvO.go rfl rfl rfl (put_T rfl _) ?_
 refine EvO.mv (.inr rfl) rfl (ev rfl) (by dsimp only [Fr.put,List.set_cons_succ,List.set_cons_zero] <;> rfl) ?_
 refine EvO.mv (.inr rfl) rfl (ev rfl) (by dsimp only [Fr.put,List.set_cons_succ,List.set_cons_zero] <;> rfl) ?_
 refine EvO.mv (.inr rfl) rfl (ev rfl) (by dsimp only [Fr.put,List.set_cons_succ,List.set_cons_zero] <;> rfl) ?_
 refine EvO.nil ?_
 try subst hK
 try change EvC _ _ _ _ _ _
 try change EvC _ _ _ _ _ _
 repeat refine EvC.seq ?_
 try generalize hK : SeqQ _ _ _ _ = K
 refine EvC.reg ?_
 refine EvO.mv (.inl rfl) rfl (ev rfl) (put_T rfl _) ?_
 refine EvO.addS (x := [40,63,58]) (y := a) rfl rfl (ev rfl) (ev rfl) (by simp <;> omega) ?_
 refine EvO.addS (x := [40,63,58] ++ a) (y := [41,124,40,63,58]) rfl rfl (ev rfl) (ev rfl) (by simp <;> omega) ?_
 refine EvO.mv (.inl rfl) rfl (ev rfl) (put_T rfl _) ?_
 refine EvO.addS (x := ([40,63,58] ++ a) ++ [41,124,40,63,58]) (y := b) rfl rfl (ev rfl) (ev rfl) (by simp <;> omega) ?_
 refine EvO.addS (x := (([40,63,58] ++ a) ++ [41,124,40,63,58]) ++ b) (y := [41]) rfl rfl (ev rfl) (ev rfl) (by simp <;> omega) ?_
 refine EvO.mv (.inl rfl) rfl (ev rfl) (put_T rfl _) ?_
 obtain ⟨_,hev,z,⟨m,n⟩,rfl,hz⟩ := whole_ev (s0 := S) (brk a [] ++ 124 :: brk b []) hl3 c hcl
 rw [<- hb3] at hev
 refine EvO.hcall rfl rfl hev (put_T rfl _) ?_
 refine EvO.mv (.inl rfl) rfl (ev rfl) (put_T rfl _) ?_
 refine EvO.go rfl rfl rfl (put_T rfl _) ?_
 refine EvO.go rfl rfl rfl (put_T rfl _) ?_
 refine EvO.go rfl rfl rfl (put_T rfl _) ?_
 refine EvO.mv (.inr rfl) rfl (ev rfl) (by dsimp only [Fr.put,List.set_cons_succ,List.set_cons_zero] <;> rfl) ?_
 refine EvO.mv (.inr rfl) rfl (ev rfl) (by dsimp only [Fr.put,List.set_cons_succ,List.set_cons_zero] <;> rfl) ?_
 refine EvO.mv (.inr rfl) rfl (ev rfl) (by dsimp only [Fr.put,List.set_cons_succ,List.set_cons_zero] <;> rfl) ?_
 refine EvO.nil ?_
 try subst hK
 try change EvC _ _ _ _ _ _
 try change EvC _ _ _ _ _ _
 repeat refine EvC.seq ?_
 refine EvC.cutT 57 (.bool ((!x || !y) || !z)) [] ?_ (fun ff tmp htmp => ?_)
 ·refine EvO.mv (.inl rfl) rfl (ev rfl) (put_T rfl _) ?_
  refine EvO.go rfl rfl rfl (put_T rfl _) ?_
  refine EvO.mv (.inl rfl) rfl (ev rfl) (put_T rfl _) ?_
  refine EvO.two 50 rfl (fun hg2 => ?_) (fun hg2 => ?_)
  ·refine EvO.skip (wantD_not rfl rfl rfl hg2) (put_T rfl _) ?_
   refine EvO.skip (wantD_not rfl rfl rfl hg2) (put_T rfl _) ?_
   refine EvO.pickT rfl rfl hg2 (put_T rfl _) ?_
   refine EvO.mv (.inl rfl) rfl (ev rfl) (put_T rfl _) ?_
   refine EvO.skip rfl (put_T rfl _) ?_
   refine EvO.skip rfl (put_T rfl _) ?_
   refine EvO.go rfl rfl rfl (put_T rfl _) ?_
   refine EvO.nil (leafT ?_ ?_)
   ·try dsimp only [setW,List.foldl_cons,List.foldl_nil,nth,List.set_cons_zero,List.set_cons_succ]
    all_goals (first | rfl | simp)
   ·try dsimp only [Fr.putO,Fr.put,Fr.clean,Fr.ev,Fr.get,nth,Go.V.look,List.set_cons_succ,List.set_cons_zero,ofVal_int,ofVal_bool,ofVal_str,ofVal_nul,ofVal_pnil,ofVal_nilfn,ofVal_nilif,List.length,List.cons_append,List.nil_append,List.append_nil,Nat.reduceSub,Nat.reduceAdd,List.map,List.map_cons,List.map_nil]
    all_goals (first | rfl | (simp [hg2]; done) | (simp_all; done) | (simp [hg2]; omega) | (simp_all; omega))
  ·refine EvO.mv (.inl rfl) (wantD_is rfl rfl rfl hg2) (ev rfl) (put_T rfl _) ?_
   refine EvO.go (wantD_is rfl rfl rfl hg2) rfl rfl (put_T rfl _) ?_
   refine EvO.pickF rfl rfl hg2 (put_T rfl _) ?_
   refine EvO.mv (.inl rfl) rfl (ev rfl) (put_T rfl _) ?_
   refine EvO.two 54 rfl (fun hg6 => ?_) (fun hg6 => ?_)
   ·refine EvO.skip (wantD_not rfl rfl rfl hg6) (put_T rfl _) ?_
    refine EvO.skip (wantD_not rfl rfl rfl hg6) (put_T rfl _) ?_
    refine EvO.pickT rfl rfl hg6 (put_T rfl _) ?_
    refine EvO.nil (leafT ?_ ?_)
    ·try dsimp only [setW,List.foldl_cons,List.foldl_nil,nth,List.set_cons_zero,List.set_cons_succ]
     all_goals (first | rfl | simp)
    ·try dsimp only [Fr.putO,Fr.put,Fr.clean,Fr.ev,Fr.get,nth,Go.V.look,List.set_cons_succ,List.set_cons_zero,ofVal_int,ofVal_bool,ofVal_str,ofVal_nul,ofVal_pnil,ofVal_nilfn,ofVal_nilif,List.length,List.cons_append,List.nil_append,List.append_nil,Nat.reduceSub,Nat.reduceAdd,List.map,List.map_cons,List.map_nil]
     all_goals (first | rfl | (simp [hg2,hg6]; done) | (simp_all; done) | (simp [hg2,hg6]; omega) | (simp_all; omega))
   ·refine EvO.mv (.inl rfl) (wantD_is rfl rfl rfl hg6) (ev rfl) (put_T rfl _) ?_
    refine EvO.go (wantD_is rfl rfl rfl hg6) rfl rfl (put_T rfl _) ?_
    refine EvO.pickF rfl rfl hg6 (put_T rfl _) ?_
    refine EvO.nil (leafT ?_ ?_)
    ·try dsimp only [setW,List.foldl_cons,List.foldl_nil,nth,List.set_cons_zero,List.set_cons_succ]
     all_goals (first | rfl | simp)
    ·try dsimp only [Fr.putO,Fr.put,Fr.clean,Fr.ev,Fr.get,nth,Go.V.look,List.set_cons_succ,List.set_cons_zero,ofVal_int,ofVal_bool,ofVal_str,ofVal_nul,ofVal_pnil,ofVal_nilfn,ofVal_nilif,List.length,List.cons_append,List.nil_append,List.append_nil,Nat.reduceSub,Nat.reduceAdd,List.map,List.map_cons,List.map_nil]
     all_goals (first | rfl | (simp [hg2,hg6]; done) | (simp_all; done) | (simp [hg2,hg6]; omega) | (simp_all; omega))
 try dsimp only [setW,List.foldl_cons,List.foldl_nil,nth,List.set_cons_zero,List.set_cons_succ]
 try dsimp only [Fr.putO,Fr.put,Fr.clean,Fr.ev,Fr.get,nth,Go.V.look,List.set_cons_succ,List.set_cons_zero,ofVal_int,ofVal_bool,ofVal_str,ofVal_nul,ofVal_pnil,ofVal_nilfn,ofVal_nilif,List.length,List.cons_append,List.nil_append,List.append_nil,Nat.reduceSub,Nat.reduceAdd,List.map,List.map_cons,List.map_nil]
 try change EvC _ _ _ _ _ _
 rcases Bool.eq_false_or_eq_true ((!x || !y) || !z) with h5 | h5
 ·first | (rw [h5] at htmp) | (rw [h5])
  try change EvC _ _ _ _ _ _
  repeat refine EvC.seq ?_
  refine EvC.cond (v := true) (by first | rfl | assumption) (fun _ => ?_) (fun h => by cases h)
  try change EvC _ _ _ _ _ _
  try change EvC _ _ _ _ _ _
  repeat refine EvC.seq ?_
  try generalize hK : SeqQ _ _ _ _ = K
  refine EvC.reg ?_
  refine EvO.hcall rfl rfl (Ev.prim rfl rfl) (put_T rfl _) ?_
  refine EvO.mv (.inr rfl) rfl (ev rfl) (by dsimp only [Fr.put,List.set_cons_succ,List.set_cons_zero] <;> rfl) ?_
  refine EvO.nil ?_
  try subst hK
  try change EvC _ _ _ _ _ _
  refine EvC.ret ⟨fun i h => (by cases h),_,_,rfl,leave_ro (by simp) hSb hH (rfl),?_⟩
  rfl
 ·first | (rw [h5] at htmp) | (rw [h5])
  have hE : (m,n) = if 0 <= i /\ (k < 0 \/ i <= k) then (i,j) else (k,l) := by
   obtain ⟨h1,h2,h3⟩ : x = true /\ y = true /\ z = true := by cases x <;> cases y <;> cases z <;> simp_all
   obtain ⟨x1,x2,x3⟩ := hx h1
   obtain ⟨y1,y2,y3⟩ := hy h2
   obtain ⟨z1,z2,z3⟩ := hz h3
   exact either_law rfl x1 y1 z1 x2 y2 z2 x3 y3 z3
  clear hx hy hz
  try change EvC _ _ _ _ _ _
  repeat refine EvC.seq ?_
  refine EvC.cond (v := false) (by first | rfl | assumption) (fun h => by cases h) (fun _ => ?_)
  try change EvC _ _ _ _ _ _
  refine EvC.skip ?_
  try change EvC _ _ _ _ _ _
  try change EvC _ _ _ _ _ _
  repeat refine EvC.seq ?_
  refine EvC.cutT 69 (.bool (decide (i >= 0) && (decide (k < 0) || decide (i <= k)))) [] ?_ (fun ff tmp htmp => ?_)
  ·refine EvO.mv (.inl rfl) rfl (ev rfl) (put_T rfl _) ?_
   refine EvO.go rfl rfl rfl (put_T rfl _) ?_
   refine EvO.mv (.inl rfl) rfl (ev rfl) (put_T rfl _) ?_
   refine EvO.two 61 rfl (fun hg2 => ?_) (fun hg2 => ?_)
   ·refine EvO.mv (.inl rfl) (wantD_is rfl rfl rfl hg2) (ev rfl) (put_T rfl _) ?_
    refine EvO.go (wantD_is rfl rfl rfl hg2) rfl rfl (put_T rfl _) ?_
    refine EvO.mv (.inl rfl) (wantD_is rfl rfl rfl hg2) (ev rfl) (put_T rfl _) ?_
    refine EvO.two 64 rfl (fun hg5 => ?_) (fun hg5 => ?_)
    ·refine EvO.skip (wantD_not rfl rfl rfl hg5) (put_T rfl _) ?_
     refine EvO.skip (wantD_not rfl rfl rfl hg5) (put_T rfl _) ?_
     refine EvO.skip (wantD_not rfl rfl rfl hg5) (put_T rfl _) ?_
     refine EvO.pickT (wantD_is rfl rfl rfl hg2) rfl hg5 (put_T rfl _) ?_
     refine EvO.pickT rfl rfl hg2 (put_T rfl _) ?_
     refine EvO.nil (leafT ?_ ?_)
     ·try dsimp only [setW,List.foldl_cons,List.foldl_nil,nth,List.set_cons_zero,List.set_cons_succ]
      all_goals (first | rfl | simp)
     ·try dsimp only [Fr.putO,Fr.put,Fr.clean,Fr.ev,Fr.get,nth,Go.V.look,List.set_cons_succ,List.set_cons_zero,ofVal_int,ofVal_bool,ofVal_str,ofVal_nul,ofVal_pnil,ofVal_nilfn,ofVal_nilif,List.length,List.cons_append,List.nil_append,List.append_nil,Nat.reduceSub,Nat.reduceAdd,List.map,List.map_cons,List.map_nil]
      all_goals (first | rfl | (simp [hg2,hg5]; done) | (simp_all; done) | (simp [hg2,hg5]; omega) | (simp_all; omega))
    ·refine EvO.mv (.inl rfl) (wantD_is rfl rfl rfl hg5) (ev rfl) (put_T rfl _) ?_
     refine EvO.mv (.inl rfl) (wantD_is rfl rfl rfl hg5) (ev rfl) (put_T rfl _) ?_
     refine EvO.go (wantD_is rfl rfl rfl hg5) rfl rfl (put_T rfl _) ?_
     refine EvO.pickF (wantD_is rfl rfl rfl hg2) rfl hg5 (put_T rfl _) ?_
     refine EvO.pickT rfl rfl hg2 (put_T rfl _) ?_
     refine EvO.nil (leafT ?_ ?_)
     ·try dsimp only [setW,List.foldl_cons,List.foldl_nil,nth,List.set_cons_zero,List.set_cons_succ]
      all_goals (first | rfl | simp)
     ·try dsimp only [Fr.putO,Fr.put,Fr.clean,Fr.ev,Fr.get,nth,Go.V.look,List.set_cons_succ,List.set_cons_zero,ofVal_int,ofVal_bool,ofVal_str,ofVal_nul,ofVal_pnil,ofVal_nilfn,ofVal_nilif,List.length,List.cons_append,List.nil_append,List.append_nil,Nat.reduceSub,Nat.reduceAdd,List.map,List.map_cons,List.map_nil]
      all_goals (first | rfl | (simp [hg2,hg5]; done) | (simp_all; done) | (simp [hg2,hg5]; omega) | (simp_all; omega))
   ·refine EvO.skip (wantD_not rfl rfl rfl hg2) (put_T rfl _) ?_
    refine EvO.skip (wantD_not rfl rfl rfl hg2) (put_T rfl _) ?_
    refine EvO.skip (wantD_not rfl rfl rfl hg2) (put_T rfl _) ?_
    refine EvO.skip rfl (put_T rfl _) ?_
    refine EvO.skip rfl (put_T rfl _) ?_
    refine EvO.skip rfl (put_T rfl _) ?_
    refine EvO.skip (wantD_not rfl rfl rfl hg2) (put_T rfl _) ?_
    refine EvO.pickF rfl rfl hg2 (put_T rfl _) ?_
    refine EvO.nil (leafT ?_ ?_)
    ·try dsimp only [setW,List.foldl_cons,List.foldl_nil,nth,List.set_cons_zero,List.set_cons_succ]
     all_goals (first | rfl | simp)
    ·try dsimp only [Fr.putO,Fr.put,Fr.clean,Fr.ev,Fr.get,nth,Go.V.look,List.set_cons_succ,List.set_cons_zero,ofVal_int,ofVal_bool,ofVal_str,ofVal_nul,ofVal_pnil,ofVal_nilfn,ofVal_nilif,List.length,List.cons_append,List.nil_append,List.append_nil,Nat.reduceSub,Nat.reduceAdd,List.map,List.map_cons,List.map_nil]
     all_goals (first | rfl | (simp [hg2]; done) | (simp_all; done) | (simp [hg2]; omega) | (simp_all; omega))
  try dsimp only [setW,List.foldl_cons,List.foldl_nil,nth,List.set_cons_zero,List.set_cons_succ]
  try dsimp only [Fr.putO,Fr.put,Fr.clean,Fr.ev,Fr.get,nth,Go.V.look,List.set_cons_succ,List.set_cons_zero,ofVal_int,ofVal_bool,ofVal_str,ofVal_nul,ofVal_pnil,ofVal_nilfn,ofVal_nilif,List.length,List.cons_append,List.nil_append,List.append_nil,Nat.reduceSub,Nat.reduceAdd,List.map,List.map_cons,List.map_nil]
  try change EvC _ _ _ _ _ _
  by_cases hc : 0 <= i /\ (k < 0 \/ i <= k)
  ·rw [if_pos hc] at hE
   obtain ⟨rfl,rfl⟩ := Prod.mk.inj hE
   have hcc : (decide (m >= 0) && (decide (k < 0) || decide (m <= k))) = true := by
    simp only [Bool.and_eq_true,Bool.or_eq_true,decide_eq_true_eq]; exact hc
   first | (rw [hcc] at htmp) | (rw [hcc])
   try change EvC _ _ _ _ _ _
   repeat refine EvC.seq ?_
   refine EvC.cond (v := true) (by first | rfl | assumption) (fun _ => ?_) (fun h => by cases h)
   try change EvC _ _ _ _ _ _
   try change EvC _ _ _ _ _ _
   repeat refine EvC.seq ?_
   refine EvC.cutL 6 (.bool true) [] ?_ (fun ff tmp => ?_)
   ·refine EvO.mv (.inl rfl) rfl (ev rfl) (put_T rfl _) ?_
    refine EvO.mv (.inl rfl) rfl (ev rfl) (put_T rfl _) ?_
    refine EvO.go rfl rfl rfl (put_T rfl _) ?_
    refine EvO.mv (.inl rfl) rfl (ev rfl) (put_T rfl _) ?_
    refine EvO.two 73 rfl (fun hg3 => ?_) (fun hg3 => ?_)
    ·refine EvO.mv (.inl rfl) (wantD_is rfl rfl rfl hg3) (ev rfl) (put_T rfl _) ?_
     refine EvO.mv (.inl rfl) (wantD_is rfl rfl rfl hg3) (ev rfl) (put_T rfl _) ?_
     refine EvO.go (wantD_is rfl rfl rfl hg3) rfl rfl (put_T rfl _) ?_
     refine EvO.pickT rfl rfl hg3 (put_T rfl _) ?_
     refine EvO.mv (.inl rfl) rfl (ev rfl) (put_T rfl _) ?_
     refine EvO.two 78 rfl (fun hg8 => ?_) (fun hg8 => ?_)
     ·refine EvO.hcall (wantD_is rfl rfl rfl hg8) rfl (Ev.prim rfl rfl) (put_T rfl _) ?_
      refine EvO.pickT rfl rfl hg8 (put_T rfl _) ?_
      refine EvO.mv (.inr rfl) rfl (ev rfl) (by dsimp only [Fr.put,List.set_cons_succ,List.set_cons_zero] <;> rfl) ?_
      refine EvO.nil (leafL ?_)
      try dsimp only [setW,List.foldl_cons,List.foldl_nil,nth,List.set_cons_zero,List.set_cons_succ]
      try dsimp only [Fr.putO,Fr.put,Fr.clean,Fr.ev,Fr.get,nth,Go.V.look,List.set_cons_succ,List.set_cons_zero,ofVal_int,ofVal_bool,ofVal_str,ofVal_nul,ofVal_pnil,ofVal_nilfn,ofVal_nilif,List.length,List.cons_append,List.nil_append,List.append_nil,Nat.reduceSub,Nat.reduceAdd,List.map,List.map_cons,List.map_nil]
      all_goals (first | rfl | (simp [hg3,hg8]; done) | (simp_all; done) | (simp [hg3,hg8]; omega) | (simp_all; omega))
     ·refine EvO.skip (wantD_not rfl rfl rfl hg8) (put_T rfl _) ?_
      refine EvO.pickF rfl rfl hg8 (put_T rfl _) ?_
      refine EvO.mv (.inr rfl) rfl (ev rfl) (by dsimp only [Fr.put,List.set_cons_succ,List.set_cons_zero] <;> rfl) ?_
      refine EvO.nil (leafL ?_)
      try dsimp only [setW,List.foldl_cons,List.foldl_nil,nth,List.set_cons_zero,List.set_cons_succ]
      try dsimp only [Fr.putO,Fr.put,Fr.clean,Fr.ev,Fr.get,nth,Go.V.look,List.set_cons_succ,List.set_cons_zero,ofVal_int,ofVal_bool,ofVal_str,ofVal_nul,ofVal_pnil,ofVal_nilfn,ofVal_nilif,List.length,List.cons_append,List.nil_append,List.append_nil,Nat.reduceSub,Nat.reduceAdd,List.map,List.map_cons,List.map_nil]
      all_goals (first | rfl | (simp [hg3,hg8]; done) | (simp_all; done) | (simp [hg3,hg8]; omega) | (simp_all; omega))
    ·refine EvO.skip (wantD_not rfl rfl rfl hg3) (put_T rfl _) ?_
     refine EvO.skip (wantD_not rfl rfl rfl hg3) (put_T rfl _) ?_
     refine EvO.skip (wantD_not rfl rfl rfl hg3) (put_T rfl _) ?_
     refine EvO.pickF rfl rfl hg3 (put_T rfl _) ?_
     refine EvO.mv (.inl rfl) rfl (ev rfl) (put_T rfl _) ?_
     refine EvO.skip rfl (put_T rfl _) ?_
     refine EvO.go rfl rfl rfl (put_T rfl _) ?_
     refine EvO.mv (.inr rfl) rfl (ev rfl) (by dsimp only [Fr.put,List.set_cons_succ,List.set_cons_zero] <;> rfl) ?_
     refine EvO.nil (leafL ?_)
     try dsimp only [setW,List.foldl_cons,List.foldl_nil,nth,List.set_cons_zero,List.set_cons_succ]
     try dsimp only [Fr.putO,Fr.put,Fr.clean,Fr.ev,Fr.get,nth,Go.V.look,List.set_cons_succ,List.set_cons_zero,ofVal_int,ofVal_bool,ofVal_str,ofVal_nul,ofVal_pnil,ofVal_nilfn,ofVal_nilif,List.length,List.cons_append,List.nil_append,List.append_nil,Nat.reduceSub,Nat.reduceAdd,List.map,List.map_cons,List.map_nil]
     all_goals (first | rfl | (simp [hg3]; done) | (simp_all; done) | (simp [hg3]; omega) | (simp_all; omega))
   try dsimp only [setW,List.foldl_cons,List.foldl_nil,nth,List.set_cons_zero,List.set_cons_succ]
   try dsimp only [Fr.putO,Fr.put,Fr.clean,Fr.ev,Fr.get,nth,Go.V.look,List.set_cons_succ,List.set_cons_zero,ofVal_int,ofVal_bool,ofVal_str,ofVal_nul,ofVal_pnil,ofVal_nilfn,ofVal_nilif,List.length,List.cons_append,List.nil_append,List.append_nil,Nat.reduceSub,Nat.reduceAdd,List.map,List.map_cons,List.map_nil]
   try change EvC _ _ _ _ _ _
   refine EvC.ret ⟨fun i h => (by cases h),_,_,rfl,leave_ro (by simp) hSb hH (rfl),?_⟩
   rfl
  ·rw [if_neg hc] at hE
   obtain ⟨rfl,rfl⟩ := Prod.mk.inj hE
   have hcc : (decide (i >= 0) && (decide (m < 0) || decide (i <= m))) = false := by
    cases hq : (decide (i >= 0) && (decide (m < 0) || decide (i <= m))) with
    | false => rfl
    | true =>
     simp only [Bool.and_eq_true,Bool.or_eq_true,decide_eq_true_eq] at hq
     exact absurd hq hc
   first | (rw [hcc] at htmp) | (rw [hcc])
   try change EvC _ _ _ _ _ _
   repeat refine EvC.seq ?_
   refine EvC.cond (v := false) (by first | rfl | assumption) (fun h => by cases h) (fun _ => ?_)
   try change EvC _ _ _ _ _ _
   refine EvC.skip ?_
   try change EvC _ _ _ _ _ _
   try change EvC _ _ _ _ _ _
   repeat refine EvC.seq ?_
   refine EvC.cutL 6 (.bool true) [] ?_ (fun ff tmp => ?_)
   ·refine EvO.mv (.inl rfl) rfl (ev rfl) (put_T rfl _) ?_
    refine EvO.mv (.inl rfl) rfl (ev rfl) (put_T rfl _) ?_
    refine EvO.go rfl rfl rfl (put_T rfl _) ?_
    refine EvO.mv (.inl rfl) rfl (ev rfl) (put_T rfl _) ?_
    refine EvO.two 84 rfl (fun hg3 => ?_) (fun hg3 => ?_)
    ·refine EvO.mv (.inl rfl) (wantD_is rfl rfl rfl hg3) (ev rfl) (put_T rfl _) ?_
     refine EvO.mv (.inl rfl) (wantD_is rfl rfl rfl hg3) (ev rfl) (put_T rfl _) ?_
     refine EvO.go (wantD_is rfl rfl rfl hg3) rfl rfl (put_T rfl _) ?_
     refine EvO.pickT rfl rfl hg3 (put_T rfl _) ?_
     refine EvO.mv (.inl rfl) rfl (ev rfl) (put_T rfl _) ?_
     refine EvO.two 89 rfl (fun hg8 => ?_) (fun hg8 => ?_)
     ·refine EvO.hcall (wantD_is rfl rfl rfl hg8) rfl (Ev.prim rfl rfl) (put_T rfl _) ?_
      refine EvO.pickT rfl rfl hg8 (put_T rfl _) ?_
      refine EvO.mv (.inr rfl) rfl (ev rfl) (by dsimp only [Fr.put,List.set_cons_succ,List.set_cons_zero] <;> rfl) ?_
      refine EvO.nil (leafL ?_)
      try dsimp only [setW,List.foldl_cons,List.foldl_nil,nth,List.set_cons_zero,List.set_cons_succ]
      try dsimp only [Fr.putO,Fr.put,Fr.clean,Fr.ev,Fr.get,nth,Go.V.look,List.set_cons_succ,List.set_cons_zero,ofVal_int,ofVal_bool,ofVal_str,ofVal_nul,ofVal_pnil,ofVal_nilfn,ofVal_nilif,List.length,List.cons_append,List.nil_append,List.append_nil,Nat.reduceSub,Nat.reduceAdd,List.map,List.map_cons,List.map_nil]
      all_goals (first | rfl | (simp [hg3,hg8]; done) | (simp_all; done) | (simp [hg3,hg8]; omega) | (simp_all; omega))
     ·refine EvO.skip (wantD_not rfl rfl rfl hg8) (put_T rfl _) ?_
      refine EvO.pickF rfl rfl hg8 (put_T rfl _) ?_
      refine EvO.mv (.inr rfl) rfl (ev rfl) (by dsimp only [Fr.put,List.set_cons_succ,List.set_cons_zero] <;> rfl) ?_
      refine EvO.nil (leafL ?_)
      try dsimp only [setW,List.foldl_cons,List.foldl_nil,nth,List.set_cons_zero,List.set_cons_succ]
      try dsimp only [Fr.putO,Fr.put,Fr.clean,Fr.ev,Fr.get,nth,Go.V.look,List.set_cons_succ,List.set_cons_zero,ofVal_int,ofVal_bool,ofVal_str,ofVal_nul,ofVal_pnil,ofVal_nilfn,ofVal_nilif,List.length,List.cons_append,List.nil_append,List.append_nil,Nat.reduceSub,Nat.reduceAdd,List.map,List.map_cons,List.map_nil]
      all_goals (first | rfl | (simp [hg3,hg8]; done) | (simp_all; done) | (simp [hg3,hg8]; omega) | (simp_all; omega))
    ·refine EvO.skip (wantD_not rfl rfl rfl hg3) (put_T rfl _) ?_
     refine EvO.skip (wantD_not rfl rfl rfl hg3) (put_T rfl _) ?_
     refine EvO.skip (wantD_not rfl rfl rfl hg3) (put_T rfl _) ?_
     refine EvO.pickF rfl rfl hg3 (put_T rfl _) ?_
     refine EvO.mv (.inl rfl) rfl (ev rfl) (put_T rfl _) ?_
     refine EvO.skip rfl (put_T rfl _) ?_
     refine EvO.go rfl rfl rfl (put_T rfl _) ?_
     refine EvO.mv (.inr rfl) rfl (ev rfl) (by dsimp only [Fr.put,List.set_cons_succ,List.set_cons_zero] <;> rfl) ?_
     refine EvO.nil (leafL ?_)
     try dsimp only [setW,List.foldl_cons,List.foldl_nil,nth,List.set_cons_zero,List.set_cons_succ]
     try dsimp only [Fr.putO,Fr.put,Fr.clean,Fr.ev,Fr.get,nth,Go.V.look,List.set_cons_succ,List.set_cons_zero,ofVal_int,ofVal_bool,ofVal_str,ofVal_nul,ofVal_pnil,ofVal_nilfn,ofVal_nilif,List.length,List.cons_append,List.nil_append,List.append_nil,Nat.reduceSub,Nat.reduceAdd,List.map,List.map_cons,List.map_nil]
     all_goals (first | rfl | (simp [hg3]; done) | (simp_all; done) | (simp [hg3]; omega) | (simp_all; omega))
   try dsimp only [setW,List.foldl_cons,List.foldl_nil,nth,List.set_cons_zero,List.set_cons_succ]
   try dsimp only [Fr.putO,Fr.put,Fr.clean,Fr.ev,Fr.get,nth,Go.V.look,List.set_cons_succ,List.set_cons_zero,ofVal_int,ofVal_bool,ofVal_str,ofVal_nul,ofVal_pnil,ofVal_nilfn,ofVal_nilif,List.length,List.cons_append,List.nil_append,List.append_nil,Nat.reduceSub,Nat.reduceAdd,List.map,List.map_cons,List.map_nil]
   try change EvC _ _ _ _ _ _
   refine EvC.ret ⟨fun i h => (by cases h),_,_,rfl,leave_ro (by simp) hSb hH (rfl),?_⟩
   rfl
theorem own : ownKnob Try.prog.godebug = none := by kernel_rfl
theorem laidOut : laidOutB Try.prog = true := by kernel_rfl
theorem lifted (os : Os) (started : os.Started) (H : Type) (enc : TypeId × Value -> H) (F : Stop.Interp) :
  ReturnsInHanded {} Try.checked os 7 .any ((Rows.OpenSpec.upto Rows.backEitherSpec).pre6 enc Try.prog Try.f7 Rows.backEitherUptoRow.domain false) (((Rows.OpenSpec.upto Rows.backEitherSpec).at F).post enc Try.prog Try.f7 false true false false) := by
 refine returnsInHanded_of_cond (C := Try.checked) (s := Rows.OpenSpec.upto Rows.backEitherSpec) (k := Rows.uptoSmall) rfl own started (by kernel_rfl) Try.func7
  (OpenSpec.witness (enc := enc) (C := Try.checked) (s := Rows.OpenSpec.upto Rows.backEitherSpec) (k := Rows.uptoSmall) rfl false ⟨#[], #[.string .empty, .string .empty, .string .empty], []⟩ 8 (by kernel_rfl) (by kernel_rfl) (by kernel_rfl)
   (x := ([.lit (.string []), .lit (.string []), .lit (.string [])], [], [])) (by kernel_rfl) rfl (by kernel_rfl)) ?_
 intro W base args ds gs before hval hW _ hk _
 have hW' := hW
 obtain ⟨p,q,hA0,hV,rfl,hfz,hnd⟩ := hW
 have hA : DataW.TrodAll enc Try.prog W 0 (fun _ => true) true Try.f7.params.toList args.toList ds p := hA0
 rw [Try.params7] at hA hval
 obtain ⟨v0,vs0,d0,ds0,p0,q0,hargs,rfl,rfl,h0,r0⟩ := trodAll_cons hA
 obtain ⟨v1,vs1,d1,ds1,p1,q1,rfl,rfl,rfl,h1,r1⟩ := trodAll_cons r0
 obtain ⟨v2,vs2,d2,ds2,p2,q2,rfl,rfl,rfl,h2,r2⟩ := trodAll_cons r1
 obtain ⟨rfl,rfl,rfl⟩ := trodAll_nil r2
 obtain rfl : args = #[v0,v1,v2] := by cases args; simp_all
 obtain ⟨rfl,rfl⟩ := trodVars_none hV
 simp only [Rows.uptoSmall,List.append_nil,List.nil_append,List.singleton_append,List.cons_append,decide_eq_true_eq,Rows.uptoBulkAll] at hk
 have i0 := trod_ir h0 (n := 12) (by kernel_rfl) (hval 0 9 v0 rfl rfl)
 have k0 := h0
 have lt0 : ∀ x ∈ p0,x.block < W.heap.size := by obtain ⟨m,hm⟩ := k0; exact DataW.trod_lt m _ _ _ hm
 obtain ⟨b0,hb0,hs0⟩ := arg_string h0 Try.underlying9
 have l0 : b0.length <= Rows.uptoBulk d0 := by rw [hs0]; simp only [Rows.uptoBulk]; omega
 have i1 := trod_ir h1 (n := 12) (by kernel_rfl) (hval 1 9 v1 rfl rfl)
 have k1 := h1
 have lt1 : ∀ x ∈ p1,x.block < W.heap.size := by obtain ⟨m,hm⟩ := k1; exact DataW.trod_lt m _ _ _ hm
 obtain ⟨b1,hb1,hs1⟩ := arg_string h1 Try.underlying9
 have l1 : b1.length <= Rows.uptoBulk d1 := by rw [hs1]; simp only [Rows.uptoBulk]; omega
 have i2 := trod_ir h2 (n := 12) (by kernel_rfl) (hval 2 9 v2 rfl rfl)
 have k2 := h2
 have lt2 : ∀ x ∈ p2,x.block < W.heap.size := by obtain ⟨m,hm⟩ := k2; exact DataW.trod_lt m _ _ _ hm
 obtain ⟨b2,hb2,hs2⟩ := arg_string h2 Try.underlying9
 have l2 : b2.length <= Rows.uptoBulk d2 := by rw [hs2]; simp only [Rows.uptoBulk]; omega
 have hlaw : Ev pv 7 [dval d0,dval d1,dval d2] ⟨[],0,0⟩ (.bool true) ⟨[],0,0⟩ := by
  rw [hb0,hb1,hb2]
  exact law b0 (by omega) b1 (by omega) b2 (by omega)
 have hir : ∀ (i : Nat) c v, [dval d0,dval d1,dval d2][i]? = some c -> [v0,v1,v2][i]? = some v -> IR W (fun b => b < W.heap.size) c v := by
  intro i c v hc hv
  match i,hc,hv with
  | 0,hc,hv => cases hc; cases hv; exact i0
  | 1,hc,hv => cases hc; cases hv; exact i1
  | 2,hc,hv => cases hc; cases hv; exact i2
 clear hA0
 refine (law_calls view hlaw (us := [v0,v1,v2]) rfl hir).mono fun e W' ⟨he,bel⟩ => ?_
 subst he
 exact ⟨_,rfl,_,_,_, [],_, [],hW',trodAll_mk1 (shut_bool Try.underlying4 _),(trodAll_cons_mk (Below.trod laidOut (by kernel_rfl) (of_decide_eq_true (by kernel_rfl)) k0 bel lt0) (trodAll_cons_mk (Below.trod laidOut (by kernel_rfl) (of_decide_eq_true (by kernel_rfl)) k1 bel lt1) (trodAll_cons_mk (Below.trod laidOut (by kernel_rfl) (of_decide_eq_true (by kernel_rfl)) k2 bel lt2) trodAll_mk0))),rfl,bel.frame _,fun h => by cases h⟩
theorem fact1 : (Rows.backEitherUptoRow.inPlace == Try.checked.prog.inPlace 7) = true := by kernel_rfl
theorem fact2 : (Rows.backEitherUptoRow.unfollowed == Try.checked.prog.unfollowed 7) = true := by kernel_rfl
theorem fact3 : (Rows.backEitherUptoRow.recurses == Try.checked.prog.recurses 7) = true := by kernel_rfl
theorem fact4 : (Rows.backEitherUptoRow.named == Try.checked.prog.varsNamed 7) = true := by kernel_rfl
theorem and_t {a b : Bool} (h1 : a = true) (h2 : b = true) : (a && b) = true := by rw [h1,h2]; rfl
theorem facts : joinedFacts Try.checked.prog 7 Try.f7 (Rows.OpenSpec.upto Rows.backEitherSpec).bare Rows.backEitherUptoRow = true := by
 unfold joinedFacts
 exact and_t (and_t (and_t (and_t (and_t (and_t (and_t (and_t (and_t (and_t (and_t (and_t (and_t (and_t (and_t (and_t (and_t (and_t (and_t (and_t (and_t (and_t (and_t (by kernel_rfl) fact1) fact2) fact3) fact4) (by kernel_rfl)) (by kernel_rfl)) (by kernel_rfl)) (by kernel_rfl)) (by kernel_rfl)) (by kernel_rfl)) (by kernel_rfl)) (by kernel_rfl)) (by kernel_rfl)) (by kernel_rfl)) (by kernel_rfl)) (by kernel_rfl)) (by kernel_rfl)) (by kernel_rfl)) (by kernel_rfl)) (by kernel_rfl)) (by kernel_rfl)) (by kernel_rfl)) (by kernel_rfl)
theorem proved : Rows.BackEitherUptoSaid :=
 OpenClaim.holds_of_cond 7 Try.f7 rfl rfl rfl rfl rfl rfl rfl ⟨rfl,rfl,rfl,rfl,rfl⟩ rfl rfl rfl rfl rfl (by kernel_rfl) Try.func7 facts
  (of_decide_eq_true (by kernel_rfl)) (by unfold Func.isWrapper; first | (rw [if_pos (by decide +kernel)]; kernel_rfl) | (rw [if_neg (by decide +kernel)]; exact ⟨rfl,rfl⟩))
  (fun os started H enc _ F => lifted os started H enc F)
end Go.Proofs.Ytnleclohocdkaaa.backEither
#print axioms Go.Proofs.Ytnleclohocdkaaa.backEither.proved
