/- own -/
import Derived.Test.YtopaaegigcfkeaaGreatTGArg
import Derived.Test.YtopaaegigcfkeaaGreatRows
import Derived.WalkKit
import Derived.ProofKit
import Derived.OpenShut
import Derived.JoinedCond
import Derived.ChangeOld
set_option maxRecDepth 100000
set_option maxHeartbeats 4000000
set_option linter.unusedSimpArgs false
set_option linter.unusedVariables false
namespace Go.Proofs.YtopaaegigcfkeaaGreat.topSilent
open Go.ChangeShapes Go.WideShapes Go.ChangeAt Go.RowKit Go.V
def ixF_TopSilentLaw (fr : Go.V.Fr) (k : Nat) : Go.V.D := Go.V.nth .junk fr.loc k
theorem wdisk_ev {s0 : St} {kw kd : Nat} {a b : D} (hb : s0.bs[kw]? = some (.mem 0 false [a, .ptr kd 0 0,b])) (hk : kd < s0.bs.length) : Ev pv 7 [.ptr kw 0 0] s0 (.ptr kd 0 0) s0 := by
 refine Ev.mk1 rfl fi7 rfl rfl rfl ?_
 dsimp only [List.cons_append,List.nil_append,List.length,Nat.reduceSub,Nat.reduceAdd,List.replicate_succ,List.replicate_zero]
 have hSb : (enterSt .ro s0).bs = s0.bs := rfl
 have hF : (enterSt .ro s0).flr <= s0.bs.length := Nat.le_refl _
 have hH : Has s0.bs.length (enterSt .ro s0) (enterSt .ro s0) [] := Has.start (Nat.le_refl _) (Nat.le_refl _)
 generalize enterSt .ro s0 = S at *
 try change EvC _ _ _ _ _ _
 repeat refine EvC.seq ?_
 try generalize hK : SeqQ _ _ _ _ = K
 refine EvC.reg ?_
 refine EvO.mv (.inr rfl) rfl (ev rfl) (by dsimp only [Fr.put,List.set_cons_succ,List.set_cons_zero] <;> rfl) ?_
 refine EvO.nil ?_
 try subst hK
 try change EvC _ _ _ _ _ _
 have hp1 := ptr_is hb hSb hH
 try change EvC _ _ _ _ _ _
 repeat refine EvC.seq ?_
 try generalize hK : SeqQ _ _ _ _ = K
 refine EvC.reg ?_
 refine EvO.mv (.inl rfl) rfl (ev rfl) (put_T rfl _) ?_
 refine EvO.go (d := .ptr kw 0 0) (st1 := _) rfl rfl rfl (put_T rfl _) ?_
 refine EvO.rfieldN (fo := 1) (m := 0) rfl (ev rfl) hp1 rfl rfl (fun _ => (put_T rfl _)) (fun p10 hp10 => ?_)
 refine EvO.rload (d := .ptr kd 0 0) rfl (ev rfl) hp10 rfl (put_T rfl _) ?_
 refine EvO.mv (.inr rfl) rfl (ev rfl) (by dsimp only [Fr.put,List.set_cons_succ,List.set_cons_zero] <;> rfl) ?_
 refine EvO.nil ?_
 try subst hK
 try change EvC _ _ _ _ _ _
 refine EvC.ret ⟨fun i h => (by cases h),_,rfl,leave_ro (by simp) hSb hH ?_⟩
 show (if kd < s0.bs.length then some (D.ptr kd 0 0) else none) = _
 rw [if_pos hk]
theorem wyard_ev {s0 : St} {kw ky : Nat} {a b : D} (hb : s0.bs[kw]? = some (.mem 0 false [.ptr ky 0 0,a,b])) (hk : ky < s0.bs.length) : Ev pv 8 [.ptr kw 0 0] s0 (.ptr ky 0 0) s0 := by
 refine Ev.mk1 rfl fi8 rfl rfl rfl ?_
 dsimp only [List.cons_append,List.nil_append,List.length,Nat.reduceSub,Nat.reduceAdd,List.replicate_succ,List.replicate_zero]
 have hSb : (enterSt .ro s0).bs = s0.bs := rfl
 have hF : (enterSt .ro s0).flr <= s0.bs.length := Nat.le_refl _
 have hH : Has s0.bs.length (enterSt .ro s0) (enterSt .ro s0) [] := Has.start (Nat.le_refl _) (Nat.le_refl _)
 generalize enterSt .ro s0 = S at *
 try change EvC _ _ _ _ _ _
 repeat refine EvC.seq ?_
 try generalize hK : SeqQ _ _ _ _ = K
 refine EvC.reg ?_
 refine EvO.mv (.inr rfl) rfl (ev rfl) (by dsimp only [Fr.put,List.set_cons_succ,List.set_cons_zero] <;> rfl) ?_
 refine EvO.nil ?_
 try subst hK
 try change EvC _ _ _ _ _ _
 have hp1 := ptr_is hb hSb hH
 try change EvC _ _ _ _ _ _
 repeat refine EvC.seq ?_
 try generalize hK : SeqQ _ _ _ _ = K
 refine EvC.reg ?_
 refine EvO.mv (.inl rfl) rfl (ev rfl) (put_T rfl _) ?_
 refine EvO.go (d := .ptr kw 0 0) (st1 := _) rfl rfl rfl (put_T rfl _) ?_
 refine EvO.rfieldN (fo := 0) (m := 0) rfl (ev rfl) hp1 rfl rfl (fun _ => (put_T rfl _)) (fun p10 hp10 => ?_)
 refine EvO.rload (d := .ptr ky 0 0) rfl (ev rfl) hp10 rfl (put_T rfl _) ?_
 refine EvO.mv (.inr rfl) rfl (ev rfl) (by dsimp only [Fr.put,List.set_cons_succ,List.set_cons_zero] <;> rfl) ?_
 refine EvO.nil ?_
 try subst hK
 try change EvC _ _ _ _ _ _
 refine EvC.ret ⟨fun i h => (by cases h),_,rfl,leave_ro (by simp) hSb hH ?_⟩
 show (if ky < s0.bs.length then some (D.ptr ky 0 0) else none) = _
 rw [if_pos hk]
theorem wfoll_ev {s0 : St} {kw kF : Nat} {a b : D} (hb : s0.bs[kw]? = some (.mem 0 false [a,b, .ptr kF 0 0])) (hk : kF < s0.bs.length) : Ev pv 9 [.ptr kw 0 0] s0 (.ptr kF 0 0) s0 := by
 refine Ev.mk1 rfl fi9 rfl rfl rfl ?_
 dsimp only [List.cons_append,List.nil_append,List.length,Nat.reduceSub,Nat.reduceAdd,List.replicate_succ,List.replicate_zero]
 have hSb : (enterSt .ro s0).bs = s0.bs := rfl
 have hF : (enterSt .ro s0).flr <= s0.bs.length := Nat.le_refl _
 have hH : Has s0.bs.length (enterSt .ro s0) (enterSt .ro s0) [] := Has.start (Nat.le_refl _) (Nat.le_refl _)
 generalize enterSt .ro s0 = S at *
 try change EvC _ _ _ _ _ _
 repeat refine EvC.seq ?_
 try generalize hK : SeqQ _ _ _ _ = K
 refine EvC.reg ?_
 refine EvO.mv (.inr rfl) rfl (ev rfl) (by dsimp only [Fr.put,List.set_cons_succ,List.set_cons_zero] <;> rfl) ?_
 refine EvO.nil ?_
 try subst hK
 try change EvC _ _ _ _ _ _
 have hp1 := ptr_is hb hSb hH
 try change EvC _ _ _ _ _ _
 repeat refine EvC.seq ?_
 try generalize hK : SeqQ _ _ _ _ = K
 refine EvC.reg ?_
 refine EvO.mv (.inl rfl) rfl (ev rfl) (put_T rfl _) ?_
 refine EvO.go (d := .ptr kw 0 0) (st1 := _) rfl rfl rfl (put_T rfl _) ?_
 refine EvO.rfieldN (fo := 2) (m := 0) rfl (ev rfl) hp1 rfl rfl (fun _ => (put_T rfl _)) (fun p10 hp10 => ?_)
 refine EvO.rload (d := .ptr kF 0 0) rfl (ev rfl) hp10 rfl (put_T rfl _) ?_
 refine EvO.mv (.inr rfl) rfl (ev rfl) (by dsimp only [Fr.put,List.set_cons_succ,List.set_cons_zero] <;> rfl) ?_
 refine EvO.nil ?_
 try subst hK
 try change EvC _ _ _ _ _ _
 refine EvC.ret ⟨fun i h => (by cases h),_,rfl,leave_ro (by simp) hSb hH ?_⟩
 show (if kF < s0.bs.length then some (D.ptr kF 0 0) else none) = _
 rw [if_pos hk]
theorem stp8_ok : (⟨8,0, [], [], .nul, [], .nul, [], []⟩ : Stp).ok := ⟨.inl ⟨rfl,rfl⟩,by simp, .inl ⟨rfl,rfl⟩,by simp,by simp,by simp⟩
theorem query_ev {N : Nat} {S s0 : St} {H : List Ent} {kw kF kp : Nat} (hF : S.flr <= N) (hW : WH N S H kw kF kp s0) : ∃ d st',Ev pv 13 [.ptr kw 0 0] s0 d st' /\ NoL d /\ WH N S H kw kF kp st' := by
 obtain ⟨_,st1,hev,⟨e,a,r,hr,rfl⟩,kF',kp',hkk,hW2⟩ := do_ev (s := ⟨8,0, [], [], .nul, [], .nul, [], []⟩) stp8_ok (by decide) (by decide) hF hW
 obtain ⟨rfl,rfl⟩ := hkk rfl
 have hH := hW2.nil
 refine Ev.mkE rfl fi13 rfl rfl rfl ?_
 dsimp only [List.cons_append,List.nil_append,List.length,Nat.reduceSub,Nat.reduceAdd,List.replicate_succ,List.replicate_zero]
 change EvC _ _ _ _ s0 _
 try change EvC _ _ _ _ _ _
 repeat refine EvC.seq ?_
 try generalize hK : SeqQ _ _ _ _ = K
 refine EvC.reg ?_
 refine EvO.mv (.inr rfl) rfl (ev rfl) (by dsimp only [Fr.put,List.set_cons_succ,List.set_cons_zero] <;> rfl) ?_
 refine EvO.nil ?_
 try subst hK
 try change EvC _ _ _ _ _ _
 try change EvC _ _ _ _ _ _
 repeat refine EvC.seq ?_
 try generalize hK : SeqQ _ _ _ _ = K
 refine EvC.reg ?_
 refine EvO.mv (.inl rfl) rfl (ev rfl) (put_T rfl _) ?_
 refine EvO.go (d := .agg [.int .i64 8, .int .i64 0, .str [], .str [], .nul, .nul, .str []]) (st1 := _) rfl rfl rfl (put_T rfl _) ?_
 refine EvO.hcall rfl rfl hev (put_T rfl _) ?_
 refine EvO.go (d := r) (st1 := _) rfl rfl rfl (put_T rfl _) ?_
 refine EvO.mv (.inr rfl) rfl (ev rfl) (by dsimp only [Fr.put,List.set_cons_succ,List.set_cons_zero] <;> rfl) ?_
 refine EvO.nil ?_
 try subst hK
 try change EvC _ _ _ _ _ _
 refine EvC.ret ⟨fun i h => (by cases h),_,_,_,rfl,rfl,?_⟩
 exact ⟨hr,hW2⟩
theorem law {s0 : St} (y : D) (b : List Stp) (hy : SlD y 7 (b.map stpC)) (hbo : b.length <= 1048576 /\ ∀ s ∈ b,s.ok) : Ev pv 3 [y] s0 (.bool true) s0 := by
 refine Ev.mk1 rfl fi3 rfl rfl rfl ?_
 dsimp only [List.cons_append,List.nil_append,List.length,Nat.reduceSub,Nat.reduceAdd,List.replicate_succ,List.replicate_zero]
 have hSb : (enterSt .ro s0).bs = s0.bs := rfl
 have hF : (enterSt .ro s0).flr <= s0.bs.length := Nat.le_refl _
 have hH : Has s0.bs.length (enterSt .ro s0) (enterSt .ro s0) [] := Has.start (Nat.le_refl _) (Nat.le_refl _)
 generalize enterSt .ro s0 = S at *
 try change EvC _ _ _ _ _ _
 repeat refine EvC.seq ?_
 try generalize hK : SeqQ _ _ _ _ = K
 refine EvC.reg ?_
 refine EvO.mv (.inr rfl) rfl (ev rfl) (by dsimp only [Fr.put,List.set_cons_succ,List.set_cons_zero] <;> rfl) ?_
 refine EvO.nil ?_
 try subst hK
 try change EvC _ _ _ _ _ _
 try change EvC _ _ _ _ _ _
 repeat refine EvC.seq ?_
 try generalize hK : SeqQ _ _ _ _ = K
 refine EvC.reg ?_
 obtain ⟨_,st1,hev,kw,ky,kf,kt,kd,kn,km,kF,kl,kq,kj,ks,kp,ka,rfl,hH⟩ := wnew_ev hF hH
 refine EvO.hcall rfl rfl hev (put_T rfl _) ?_
 refine EvO.mv (.inr rfl) rfl (ev rfl) (by dsimp only [Fr.put,List.set_cons_succ,List.set_cons_zero] <;> rfl) ?_
 refine EvO.nil ?_
 try subst hK
 try change EvC _ _ _ _ _ _
 have hW : WH s0.bs.length S [] kw kF kp st1 := by
  have h1 : Has s0.bs.length S st1 (_ :: _ :: _ :: _ :: _ :: _ :: _ :: _ :: _) := (((hH.erase 9).erase 8).erase 3).erase 2
  have h2 := Has.rot [_,_] [_] (Has.rot [_,_,_] [_,_] h1)
  have h3 := Has.rot [_] [_,_,_,_,_,_] (Has.rot [_,_,_,_,_,_,_] [_] h2)
  have h4 := Has.rot [_] [_,_,_,_,_,_,_,_,_] (h3.nulE 3)
  exact ⟨ky,kd,kn,kl,kf,kt,_,_,_,_,_,_,_, .nul, [],⟨fun i j u w _ hu => by simp [fr1] at hu,by simp,fun p hp => by cases hp⟩,h4⟩
 have hH := hH.take 0
 try change EvC _ _ _ _ _ _
 repeat refine EvC.seq ?_
 try generalize hK : SeqQ _ _ _ _ = K
 refine EvC.reg ?_
 refine EvO.mv (.inl rfl) rfl (ev rfl) (put_T rfl _) ?_
 refine EvO.go (d := .bool false) (st1 := _) rfl rfl rfl (put_T rfl _) ?_
 refine EvO.nil ?_
 try subst hK
 try change EvC _ _ _ _ _ _
 try change EvC _ _ _ _ _ _
 repeat refine EvC.seq ?_
 refine EvC.cond (v := false) (by first | rfl | assumption) (fun h => by cases h) (fun _ => ?_)
 try change EvC _ _ _ _ _ _
 refine EvC.skip ?_
 try change EvC _ _ _ _ _ _
 try change EvC _ _ _ _ _ _
 repeat refine EvC.seq ?_
 try generalize hK : SeqQ _ _ _ _ = K
 refine EvC.reg ?_
 refine EvO.mv (.inl rfl) rfl (ev rfl) (put_T rfl _) ?_
 obtain ⟨z,hev,os,hz,hol,hos⟩ := steps_ev (s0 := st1) hy hbo.1 hbo.2
 refine EvO.hcall rfl rfl hev (put_T rfl _) ?_
 refine EvO.mv (.inr rfl) rfl (ev rfl) (by dsimp only [Fr.put,List.set_cons_succ,List.set_cons_zero] <;> rfl) ?_
 refine EvO.nil ?_
 try subst hK
 try change EvC _ _ _ _ _ _
 have hza : Arg s0.bs.length S 7 z (os.map stpC) := hz.arg _ _
 have hol' : (os.map stpC).length = os.length := List.length_map _
 try change EvC _ _ _ _ _ _
 repeat refine EvC.seq ?_
 try generalize hK : SeqQ _ _ _ _ = K
 refine EvC.reg ?_
 refine EvO.mv (.inr rfl) rfl (ev rfl) (by dsimp only [Fr.put,List.set_cons_succ,List.set_cons_zero] <;> rfl) ?_
 refine EvO.nil ?_
 try subst hK
 try change EvC _ _ _ _ _ _
 try change EvC _ _ _ _ _ _
 repeat refine EvC.seq ?_
 refine EvC.block ?_
 refine EvC.loop (fun mm fr st => ∃ (i : Nat) (kF2 kp2 : Nat),fr.clean = ⟨9, [z,ixF_TopSilentLaw fr 1,ixF_TopSilentLaw fr 2, .ptr kw 0 0, .int .i64 (i : Nat),ixF_TopSilentLaw fr 5,ixF_TopSilentLaw fr 6,ixF_TopSilentLaw fr 7,ixF_TopSilentLaw fr 8], []⟩ /\ Has s0.bs.length S st [] /\ (i + mm = os.length) /\ (WH s0.bs.length S [] kw kF2 kp2 st)) (os.length) ?_ ?_
 ·exact ⟨0,kF,kp,rfl,hH,by omega,hW⟩
 ·rintro mm fr st ⟨i,kF2,kp2,hfr,hH,hi,hW⟩
  rw [hfr]
  clear hfr
  try generalize ixF_TopSilentLaw fr = ee
  clear fr
  try change EvC _ _ _ _ _ _
  try change EvC _ _ _ _ _ _
  repeat refine EvC.seq ?_
  try generalize hK : SeqQ _ _ _ _ = K
  refine EvC.reg ?_
  refine EvO.mv (.inl rfl) rfl (ev rfl) (put_T rfl _) ?_
  refine EvO.mv (.inl rfl) rfl (ev rfl) (put_T rfl _) ?_
  first | refine EvO.rlen rfl (ev rfl) (Arg.rows (by assumption) hH) rfl (put_T rfl _) ?_ | refine EvO.rlen rfl (ev rfl) (hH.rows (by first | exact at0 | exact at1 | exact at2 | exact at3 | exact at4 | exact at5 | exact at6 | exact at7)) rfl (put_T rfl _) ?_ | refine EvO.slen rfl rfl rfl (put_T rfl _) ?_ | refine EvO.go rfl rfl rfl (put_T rfl _) ?_
  try simp only [List.length_map,List.length_append,List.length_cons,List.length_nil,List.length_set,List.length_replicate,List.length_reverse]
  refine EvO.go rfl rfl rfl (put_T rfl _) ?_
  refine EvO.nil ?_
  try subst hK
  try change EvC _ _ _ _ _ _
  try change EvC _ _ _ _ _ _
  repeat refine EvC.seq ?_
  refine EvC.cond (by first | rfl | assumption) (fun h1 => ?_) (fun h1 => ?_) <;> try simp only [decide_eq_true_eq,decide_eq_false_iff_not,beq_iff_eq,beq_eq_false_iff_ne,bne_iff_ne,bne_eq_false_iff_eq,ne_eq,Bool.not_eq_true',Bool.not_eq_false',Bool.not_eq_true,Bool.not_eq_false] at h1
  ·refine EvC.skip ?_
   try change EvC _ _ _ _ _ _
   obtain ⟨s,hs0⟩ : ∃ s,os[i]? = some s := ⟨os[i]'(by omega),List.getElem?_eq_getElem _⟩
   have hr1 : (os.map stpC)[i]? = some [.int .i64 s.kind, .int .i64 s.n, .str s.nm, .str s.to,s.y,s.x, .str s.c] := by rw [List.getElem?_map,hs0]; rfl
   obtain ⟨hsk,hs9⟩ := hos s (List.mem_of_getElem? hs0)
   try change EvC _ _ _ _ _ _
   repeat refine EvC.seq ?_
   refine EvC.block ?_
   try change EvC _ _ _ _ _ _
   repeat refine EvC.seq ?_
   try generalize hK : SeqQ _ _ _ _ = K
   refine EvC.reg ?_
   refine EvO.mv (.inl rfl) rfl (ev rfl) (put_T rfl _) ?_
   refine EvO.mv (.inl rfl) rfl (ev rfl) (put_T rfl _) ?_
   first | refine EvO.ridx rfl (ev rfl) (ev rfl) (Arg.rows (by assumption) hH) rfl rfl (by assumption) (fun _ => (put_T rfl _)) (fun p22 hp22 => ?_) | refine EvO.oidx hH rfl (ev rfl) (ev rfl) (by first | exact at0 | exact at1 | exact at2 | exact at3 | exact at4 | exact at5 | exact at6 | exact at7) rfl rfl (by first | exact lt_get (by assumption) | omega | (simp only [List.length_map,List.length_append,List.length_cons,List.length_nil,List.length_set,List.length_replicate] <;> omega)) (fun _ => (put_T rfl _)) (fun p22 hp22 => ?_)
   first | refine EvO.rfieldN (fo := 0) (m := 0) rfl (ev rfl) (by assumption) rfl rfl (fun _ => (put_T rfl _)) (fun p23 hp23 => ?_) | refine EvO.ofieldN (fo := 0) (m := 0) (o2 := 0) rfl (ev rfl) (by assumption) rfl rfl rfl (fun _ => (put_T rfl _)) (fun p23 hp23 => ?_)
   first | refine EvO.rload rfl (ev rfl) (by assumption) rfl (put_T rfl _) ?_ | refine EvO.oload hH rfl (ev rfl) (by assumption) (by first | exact at0 | exact at1 | exact at2 | exact at3 | exact at4 | exact at5 | exact at6 | exact at7) (by assumption) rfl (put_T rfl _) ?_ | refine EvO.hload hH rfl (ev rfl) (by first | exact at0 | exact at1 | exact at2 | exact at3 | exact at4 | exact at5 | exact at6 | exact at7) rfl (put_T rfl _) ?_
   refine EvO.go rfl rfl rfl (put_T rfl _) ?_
   refine EvO.nil ?_
   try subst hK
   try change EvC _ _ _ _ _ _
   try change EvC _ _ _ _ _ _
   repeat refine EvC.seq ?_
   refine EvC.cond (by first | rfl | assumption) (fun h7 => ?_) (fun h7 => ?_) <;> try simp only [decide_eq_true_eq,decide_eq_false_iff_not,beq_iff_eq,beq_eq_false_iff_ne,bne_iff_ne,bne_eq_false_iff_eq,ne_eq,Bool.not_eq_true',Bool.not_eq_false',Bool.not_eq_true,Bool.not_eq_false] at h7
   ·try change EvC _ _ _ _ _ _
    refine EvC.exit ?_
    try change EvC _ _ _ _ _ _
    try change EvC _ _ _ _ _ _
    repeat refine EvC.seq ?_
    try generalize hK : SeqQ _ _ _ _ = K
    refine EvC.reg ?_
    refine EvO.mv (.inl rfl) rfl (ev rfl) (put_T rfl _) ?_
    refine EvO.addZ (z := ((i + 1 : Nat) : Int)) rfl (ev rfl) (ev rfl) (by (try simp only [List.length_reverse,List.length_cons,List.length_nil,List.length_append,List.length_map,List.length_set]); first | (rw [wrap_i64 (by omega) (by omega)] <;> omega) | (rw [wrap_i32 (by omega) (by omega)] <;> omega)) (put_T rfl _) ?_
    refine EvO.mv (.inr rfl) rfl (ev rfl) (by dsimp only [Fr.put,List.set_cons_succ,List.set_cons_zero] <;> rfl) ?_
    refine EvO.nil ?_
    try subst hK
    try change EvC _ _ _ _ _ _
    exact ⟨mm - 1,by omega,⟨i + 1,kF2,kp2,rfl,hH,by omega,hW⟩⟩
   ·refine EvC.skip ?_
    try change EvC _ _ _ _ _ _
    try change EvC _ _ _ _ _ _
    repeat refine EvC.seq ?_
    try generalize hK : SeqQ _ _ _ _ = K
    refine EvC.reg ?_
    refine EvO.mv (.inl rfl) rfl (ev rfl) (put_T rfl _) ?_
    refine EvO.mv (.inl rfl) rfl (ev rfl) (put_T rfl _) ?_
    refine EvO.mv (.inl rfl) rfl (ev rfl) (put_T rfl _) ?_
    first | refine EvO.ridx rfl (ev rfl) (ev rfl) (Arg.rows (by assumption) hH) rfl rfl (by assumption) (fun _ => (put_T rfl _)) (fun p29 hp29 => ?_) | refine EvO.oidx hH rfl (ev rfl) (ev rfl) (by first | exact at0 | exact at1 | exact at2 | exact at3 | exact at4 | exact at5 | exact at6 | exact at7) rfl rfl (by first | exact lt_get (by assumption) | omega | (simp only [List.length_map,List.length_append,List.length_cons,List.length_nil,List.length_set,List.length_replicate] <;> omega)) (fun _ => (put_T rfl _)) (fun p29 hp29 => ?_)
    first | refine EvO.rloadS rfl (ev rfl) (by assumption) rfl (put_T rfl _) ?_ | refine EvO.oloadS hH rfl (ev rfl) (by assumption) (by first | exact at0 | exact at1 | exact at2 | exact at3 | exact at4 | exact at5 | exact at6 | exact at7) (by assumption) rfl (put_T rfl _) ?_ | refine EvO.hloadS (m := 7) hH rfl (ev rfl) (by first | exact at0 | exact at1 | exact at2 | exact at3 | exact at4 | exact at5 | exact at6 | exact at7) (by dsimp only [List.drop_succ_cons,List.drop_zero,List.take_succ_cons,List.take_zero] <;> rfl) rfl rfl (put_T rfl _) ?_
    obtain ⟨_,st1,hev,⟨e,a,r,hr,rfl⟩,kF3,kp3,_,hW⟩ := do_ev hsk hs9 h7 hF hW
    have hH := hW.nil
    refine EvO.hcall rfl rfl hev (put_T rfl _) ?_
    refine EvO.go (d := .nul) (st1 := _) rfl rfl rfl (put_T rfl _) ?_
    refine EvO.go (d := .int .i64 0) (st1 := _) rfl rfl rfl (put_T rfl _) ?_
    refine EvO.go (d := .bool false) (st1 := _) rfl rfl rfl (put_T rfl _) ?_
    refine EvO.nil ?_
    try subst hK
    try change EvC _ _ _ _ _ _
    try change EvC _ _ _ _ _ _
    repeat refine EvC.seq ?_
    refine EvC.cond (v := false) (by first | rfl | assumption) (fun h => by cases h) (fun _ => ?_)
    try change EvC _ _ _ _ _ _
    refine EvC.skip ?_
    try change EvC _ _ _ _ _ _
    try change EvC _ _ _ _ _ _
    repeat refine EvC.seq ?_
    try generalize hK : SeqQ _ _ _ _ = K
    refine EvC.reg ?_
    refine EvO.mv (.inl rfl) rfl (ev rfl) (put_T rfl _) ?_
    refine EvO.addZ (z := ((i + 1 : Nat) : Int)) rfl (ev rfl) (ev rfl) (by (try simp only [List.length_reverse,List.length_cons,List.length_nil,List.length_append,List.length_map,List.length_set]); first | (rw [wrap_i64 (by omega) (by omega)] <;> omega) | (rw [wrap_i32 (by omega) (by omega)] <;> omega)) (put_T rfl _) ?_
    refine EvO.mv (.inr rfl) rfl (ev rfl) (by dsimp only [Fr.put,List.set_cons_succ,List.set_cons_zero] <;> rfl) ?_
    refine EvO.nil ?_
    try subst hK
    try change EvC _ _ _ _ _ _
    exact ⟨mm - 1,by omega,⟨i + 1,kF3,kp3,rfl,hW.nil,by omega,hW⟩⟩
  ·try change EvC _ _ _ _ _ _
   refine EvC.exit ?_
   try change EvC _ _ _ _ _ _
   obtain ⟨ky,kd,kn,kl,kf,kt,d2,d3,f1,f4,f6,l1,l3,x,L,hL,hH⟩ := hW
   have hy1 := (hH.ge (j := 7) at7).2
   have hd1 := (hH.ge at1).2
   have hF1 := (hH.ge at3).2
   try change EvC _ _ _ _ _ _
   repeat refine EvC.seq ?_
   try generalize hK : SeqQ _ _ _ _ = K
   refine EvC.reg ?_
   refine EvO.mv (.inl rfl) rfl (ev rfl) (put_T rfl _) ?_
   refine EvO.hcall rfl rfl (wdisk_ev (hH.at at0) hd1) (put_T rfl _) ?_
   refine EvO.mv (.inl rfl) rfl (ev rfl) (put_T rfl _) ?_
   refine EvO.hcall rfl rfl (wyard_ev (hH.at at0) hy1) (put_T rfl _) ?_
   refine EvO.mv (.inl rfl) rfl (ev rfl) (put_T rfl _) ?_
   refine EvO.hcall rfl rfl (wfoll_ev (hH.at at0) hF1) (put_T rfl _) ?_
   refine EvO.mv (.inr rfl) rfl (ev rfl) (by dsimp only [Fr.put,List.set_cons_succ,List.set_cons_zero] <;> rfl) ?_
   refine EvO.mv (.inr rfl) rfl (ev rfl) (by dsimp only [Fr.put,List.set_cons_succ,List.set_cons_zero] <;> rfl) ?_
   refine EvO.mv (.inr rfl) rfl (ev rfl) (by dsimp only [Fr.put,List.set_cons_succ,List.set_cons_zero] <;> rfl) ?_
   refine EvO.nil ?_
   try subst hK
   try change EvC _ _ _ _ _ _
   have hg2 : false = false := rfl
   have hg6 : false = false := rfl
   try change EvC _ _ _ _ _ _
   repeat refine EvC.seq ?_
   try generalize hK : SeqQ _ _ _ _ = K
   refine EvC.reg ?_
   refine EvO.mv (.inl rfl) rfl (ev rfl) (put_T rfl _) ?_
   refine EvO.go (d := .bool false) (st1 := _) rfl rfl rfl (put_T rfl _) ?_
   refine EvO.mv (.inl rfl) rfl (ev rfl) (put_T rfl _) ?_
   refine EvO.mv (.inl rfl) (wantD_is rfl rfl rfl hg2) (ev rfl) (put_T rfl _) ?_
   refine EvO.go (d := .bool false) (st1 := _) (wantD_is rfl rfl rfl hg2) rfl rfl (put_T rfl _) ?_
   refine EvO.go (d := .bool false) (st1 := _) rfl rfl rfl (put_T rfl _) ?_
   refine EvO.mv (.inl rfl) rfl (ev rfl) (put_T rfl _) ?_
   refine EvO.mv (.inl rfl) (wantD_is rfl rfl rfl hg6) (ev rfl) (put_T rfl _) ?_
   refine EvO.go (d := .bool false) (st1 := _) (wantD_is rfl rfl rfl hg6) rfl rfl (put_T rfl _) ?_
   refine EvO.go (d := .bool false) (st1 := _) rfl rfl rfl (put_T rfl _) ?_
   refine EvO.nil ?_
   try subst hK
   try change EvC _ _ _ _ _ _
   try change EvC _ _ _ _ _ _
   repeat refine EvC.seq ?_
   refine EvC.cond (v := false) (by first | rfl | assumption) (fun h => by cases h) (fun _ => ?_)
   try change EvC _ _ _ _ _ _
   refine EvC.skip ?_
   try change EvC _ _ _ _ _ _
   try change EvC _ _ _ _ _ _
   repeat refine EvC.seq ?_
   try generalize hK : SeqQ _ _ _ _ = K
   refine EvC.reg ?_
   refine EvO.mv (.inr rfl) rfl (ev rfl) (by dsimp only [Fr.put,List.set_cons_succ,List.set_cons_zero] <;> rfl) ?_
   refine EvO.nil ?_
   try subst hK
   try change EvC _ _ _ _ _ _
   try change EvC _ _ _ _ _ _
   repeat refine EvC.seq ?_
   refine EvC.block ?_
   refine EvC.loop (fun mm fr st => ∃ (i : Nat),fr.clean = ⟨9, [ixF_TopSilentLaw fr 0,ixF_TopSilentLaw fr 1,ixF_TopSilentLaw fr 2, .ptr kw 0 0,ixF_TopSilentLaw fr 4, .ptr kd 0 0, .ptr ky 0 0, .ptr kF2 0 0, .int .i64 (i : Nat)], []⟩ /\ Has s0.bs.length S st (.box kw (.mem 0 false [.ptr ky 0 0, .ptr kd 0 0, .ptr kF2 0 0]) :: .box kd (.mem 0 false [.ptr kn 0 0,d2,d3]) :: .box kn (.mem 0 false [.nul]) :: .box kF2 (.mem 0 false [f1, .pnil, .ptr kl 0 0,f4, .ptr kp2 0 0,f6]) :: .box kp2 (.mem 0 false [.nul]) :: .box kl (.mem 0 false [l1, .nul,l3]) :: .box kt (.mem 0 false [.nul]) :: .box ky (.mem 0 false [.ptr kf 0 0, .ptr kt 0 0]) :: .box kf (.mem 0 false [x]) :: .lst x 3 ((fr1 L).map flC) :: (L.map bE ++ [])) /\ (i + mm = 13)) (12) ?_ ?_
   ·exact ⟨1,rfl,hH,by omega⟩
   ·rintro mm fr st ⟨i,hfr,hH,hi⟩
    rw [hfr]
    clear hfr
    try generalize ixF_TopSilentLaw fr = ee
    clear fr
    try change EvC _ _ _ _ _ _
    try change EvC _ _ _ _ _ _
    repeat refine EvC.seq ?_
    try generalize hK : SeqQ _ _ _ _ = K
    refine EvC.reg ?_
    refine EvO.mv (.inl rfl) rfl (ev rfl) (put_T rfl _) ?_
    refine EvO.go rfl rfl rfl (put_T rfl _) ?_
    refine EvO.nil ?_
    try subst hK
    try change EvC _ _ _ _ _ _
    try change EvC _ _ _ _ _ _
    repeat refine EvC.seq ?_
    refine EvC.cond (by first | rfl | assumption) (fun h2 => ?_) (fun h2 => ?_) <;> try simp only [decide_eq_true_eq,decide_eq_false_iff_not,beq_iff_eq,beq_eq_false_iff_ne,bne_iff_ne,bne_eq_false_iff_eq,ne_eq,Bool.not_eq_true',Bool.not_eq_false',Bool.not_eq_true,Bool.not_eq_false] at h2
    ·refine EvC.skip ?_
     try change EvC _ _ _ _ _ _
     try change EvC _ _ _ _ _ _
     repeat refine EvC.seq ?_
     refine EvC.block ?_
     have hg4 : false = false := rfl
     try change EvC _ _ _ _ _ _
     repeat refine EvC.seq ?_
     try generalize hK : SeqQ _ _ _ _ = K
     refine EvC.reg ?_
     refine EvO.mv (.inl rfl) rfl (ev rfl) (put_T rfl _) ?_
     refine EvO.mv (.inl rfl) rfl (ev rfl) (put_T rfl _) ?_
     refine EvO.hcall rfl rfl (taken_ev (hH.at at7) (hH.at at6)) (put_T rfl _) ?_
     refine EvO.go (d := .bool false) (st1 := _) rfl rfl rfl (put_T rfl _) ?_
     refine EvO.mv (.inl rfl) rfl (ev rfl) (put_T rfl _) ?_
     refine EvO.mv (.inl rfl) (wantD_is rfl rfl rfl hg4) (ev rfl) (put_T rfl _) ?_
     refine EvO.mv (.inl rfl) (wantD_is rfl rfl rfl hg4) (ev rfl) (put_T rfl _) ?_
     refine EvO.hcall (wantD_is rfl rfl rfl hg4) rfl (gen_ev (hH.at at3) (hH.at at4)) (put_T rfl _) ?_
     refine EvO.go (d := .bool false) (st1 := _) (wantD_is rfl rfl rfl hg4) rfl rfl (put_T rfl _) ?_
     refine EvO.go (d := .bool false) (st1 := _) rfl rfl rfl (put_T rfl _) ?_
     refine EvO.nil ?_
     try subst hK
     try change EvC _ _ _ _ _ _
     try change EvC _ _ _ _ _ _
     repeat refine EvC.seq ?_
     refine EvC.cond (v := false) (by first | rfl | assumption) (fun h => by cases h) (fun _ => ?_)
     try change EvC _ _ _ _ _ _
     refine EvC.skip ?_
     try change EvC _ _ _ _ _ _
     try change EvC _ _ _ _ _ _
     repeat refine EvC.seq ?_
     try generalize hK : SeqQ _ _ _ _ = K
     refine EvC.reg ?_
     refine EvO.mv (.inl rfl) rfl (ev rfl) (put_T rfl _) ?_
     refine EvO.addZ (z := ((i + 1 : Nat) : Int)) rfl (ev rfl) (ev rfl) (by (try simp only [List.length_reverse,List.length_cons,List.length_nil,List.length_append,List.length_map,List.length_set]); first | (rw [wrap_i64 (by omega) (by omega)] <;> omega) | (rw [wrap_i32 (by omega) (by omega)] <;> omega)) (put_T rfl _) ?_
     refine EvO.mv (.inr rfl) rfl (ev rfl) (by dsimp only [Fr.put,List.set_cons_succ,List.set_cons_zero] <;> rfl) ?_
     refine EvO.nil ?_
     try subst hK
     try change EvC _ _ _ _ _ _
     exact ⟨mm - 1,by omega,⟨i + 1,rfl,hH,by omega⟩⟩
    ·try change EvC _ _ _ _ _ _
     refine EvC.exit ?_
     try change EvC _ _ _ _ _ _
     have hg3 : true = true := rfl
     have hg9 : true = true := rfl
     have hg15 : true = true := rfl
     have htot := total_ev (hH.at at1) (hH.at at2)
     try change EvC _ _ _ _ _ _
     repeat refine EvC.seq ?_
     try generalize hK : SeqQ _ _ _ _ = K
     refine EvC.reg ?_
     refine EvO.mv (.inl rfl) rfl (ev rfl) (put_T rfl _) ?_
     refine EvO.hcall rfl rfl htot (put_T rfl _) ?_
     refine EvO.go (d := .bool true) (st1 := _) rfl rfl rfl (put_T rfl _) ?_
     refine EvO.mv (.inl rfl) rfl (ev rfl) (put_T rfl _) ?_
     refine EvO.mv (.inl rfl) (wantD_is rfl rfl rfl hg3) (ev rfl) (put_T rfl _) ?_
     obtain ⟨_,st1,hev,hr,_,_,_,_,_,_,_,_,_,_,_,_,_,_,_,_,hH⟩ := query_ev hF ⟨_,_,_,_,_,_,_,_,_,_,_,_,_,_,_,hL,hH⟩
     refine EvO.hcall (wantD_is rfl rfl rfl hg3) rfl hev (put_T rfl _) ?_
     have hra := (hr.rows 1).rows
     refine EvO.rlen (wantD_is rfl rfl rfl hg3) (ev rfl) (hra _) rfl (put_T rfl _) ?_
     refine EvO.go (d := .bool true) (st1 := _) (wantD_is rfl rfl rfl hg3) rfl rfl (put_T rfl _) ?_
     refine EvO.go (d := .bool true) (st1 := _) rfl rfl rfl (put_T rfl _) ?_
     refine EvO.mv (.inl rfl) rfl (ev rfl) (put_T rfl _) ?_
     refine EvO.mv (.inl rfl) (wantD_is rfl rfl rfl hg9) (ev rfl) (put_T rfl _) ?_
     refine EvO.hcall (wantD_is rfl rfl rfl hg9) rfl (entries_ev (hH.at at3) (hH.at at4)) (put_T rfl _) ?_
     refine EvO.go (d := .int .i64 0) (st1 := _) (wantD_is rfl rfl rfl hg9) rfl rfl (put_T rfl _) ?_
     refine EvO.go (d := .bool true) (st1 := _) (wantD_is rfl rfl rfl hg9) rfl rfl (put_T rfl _) ?_
     refine EvO.go (d := .bool true) (st1 := _) rfl rfl rfl (put_T rfl _) ?_
     refine EvO.mv (.inl rfl) rfl (ev rfl) (put_T rfl _) ?_
     refine EvO.hcall (wantD_is rfl rfl rfl hg15) rfl (Ev.prim rfl rfl) (put_T rfl _) ?_
     refine EvO.go (d := .bool true) (st1 := _) rfl rfl rfl (put_T rfl _) ?_
     refine EvO.mv (.inr rfl) rfl (ev rfl) (by dsimp only [Fr.put,List.set_cons_succ,List.set_cons_zero] <;> rfl) ?_
     refine EvO.nil ?_
     try subst hK
     try change EvC _ _ _ _ _ _
     refine EvC.ret ⟨fun i h => (by cases h),_,rfl,leave_ro (by simp) hSb hH (rfl)⟩
theorem own : ownKnob Tryz.prog.godebug = none := by kernel_rfl
theorem laidOut : laidOutB Tryz.prog = true := by kernel_rfl
theorem lifted (os : Os) (started : os.Started) (H : Type) (enc : TypeId × Value -> H) (F : Stop.Interp) :
  ReturnsInHanded {} Tryz.checked os 3 .any ((Rows.OpenSpec.upto Rows.topSilentSpec).pre6 enc Tryz.prog Tryz.f3 Rows.topSilentUptoRow.domain false) (((Rows.OpenSpec.upto Rows.topSilentSpec).at F).post enc Tryz.prog Tryz.f3 false true false false) := by
 refine returnsInHanded_of_cond (C := Tryz.checked) (s := Rows.OpenSpec.upto Rows.topSilentSpec) (k := Rows.uptoSmall) rfl own started (by kernel_rfl) Tryz.func3
  (OpenSpec.witness (enc := enc) (C := Tryz.checked) (s := Rows.OpenSpec.upto Rows.topSilentSpec) (k := Rows.uptoSmall) rfl false ⟨#[], #[.slice none 0 0], []⟩ 8 (by kernel_rfl) (by kernel_rfl) (by kernel_rfl)
   (x := ([.nil], [], [])) (by kernel_rfl) rfl (by kernel_rfl)) ?_
 intro W base args ds gs before hval hW _ hk _
 have hW' := hW
 obtain ⟨p,q,hA0,hV,rfl,hfz,hnd⟩ := hW
 have hA : DataW.TrodAll enc Tryz.prog W 0 (fun _ => true) true Tryz.f3.params.toList args.toList ds p := hA0
 rw [Tryz.params3] at hA hval
 obtain ⟨v0,vs0,d0,ds0,p0,q0,hargs,rfl,rfl,h0,r0⟩ := trodAll_cons hA
 obtain ⟨rfl,rfl,rfl⟩ := trodAll_nil r0
 obtain rfl : args = #[v0] := by cases args; simp_all
 obtain ⟨rfl,rfl⟩ := trodVars_none hV
 simp only [Rows.uptoSmall,List.append_nil,List.nil_append,List.singleton_append,List.cons_append,decide_eq_true_eq,Rows.uptoBulkAll] at hk
 have i0 := trod_ir h0 (n := 12) (by kernel_rfl) (hval 0 22 v0 rfl rfl)
 have k0 := h0
 have lt0 : ∀ x ∈ p0,x.block < W.heap.size := by obtain ⟨m,hm⟩ := k0; exact DataW.trod_lt m _ _ _ hm
 obtain ⟨y0,b0,hb0,sl0,ok0⟩ := arg_steps (Rd.of h0)
 have hlaw : Ev pv 3 [dval d0] ⟨[],0,0⟩ (.bool true) ⟨[],0,0⟩ := by
  rw [hb0]
  exact law y0 b0 sl0 (ok0 (by omega))
 have hir : ∀ (i : Nat) c v, [dval d0][i]? = some c -> [v0][i]? = some v -> IR W (fun b => b < W.heap.size) c v := by
  intro i c v hc hv
  match i,hc,hv with
  | 0,hc,hv => cases hc; cases hv; exact i0
 clear hA0
 refine (law_calls view hlaw (us := [v0]) rfl hir).mono fun e W' ⟨he,bel⟩ => ?_
 subst he
 exact ⟨_,rfl,_,_,_, [],_, [],hW',trodAll_mk1 (shut_bool Tryz.underlying4 _),(trodAll_cons_mk (Below.trod laidOut (by kernel_rfl) (of_decide_eq_true (by kernel_rfl)) k0 bel lt0) trodAll_mk0),rfl,bel.frame _,fun h => by cases h⟩
theorem fact1 : (Rows.topSilentUptoRow.inPlace == Tryz.checked.prog.inPlace 3) = true := by kernel_rfl
theorem fact2 : (Rows.topSilentUptoRow.unfollowed == Tryz.checked.prog.unfollowed 3) = true := by kernel_rfl
theorem fact3 : (Rows.topSilentUptoRow.recurses == Tryz.checked.prog.recurses 3) = true := by kernel_rfl
theorem fact4 : (Rows.topSilentUptoRow.named == Tryz.checked.prog.varsNamed 3) = true := by kernel_rfl
theorem and_t {a b : Bool} (h1 : a = true) (h2 : b = true) : (a && b) = true := by rw [h1,h2]; rfl
theorem facts : joinedFacts Tryz.checked.prog 3 Tryz.f3 (Rows.OpenSpec.upto Rows.topSilentSpec).bare Rows.topSilentUptoRow = true := by
 unfold joinedFacts
 exact and_t (and_t (and_t (and_t (and_t (and_t (and_t (and_t (and_t (and_t (and_t (and_t (and_t (and_t (and_t (and_t (and_t (and_t (and_t (and_t (and_t (and_t (and_t (by kernel_rfl) fact1) fact2) fact3) fact4) (by kernel_rfl)) (by kernel_rfl)) (by kernel_rfl)) (by kernel_rfl)) (by kernel_rfl)) (by kernel_rfl)) (by kernel_rfl)) (by kernel_rfl)) (by kernel_rfl)) (by kernel_rfl)) (by kernel_rfl)) (by kernel_rfl)) (by kernel_rfl)) (by kernel_rfl)) (by kernel_rfl)) (by kernel_rfl)) (by kernel_rfl)) (by kernel_rfl)) (by kernel_rfl)
theorem proved : Rows.TopSilentUptoSaid :=
 OpenClaim.holds_of_cond 3 Tryz.f3 rfl rfl rfl rfl rfl rfl rfl ⟨rfl,rfl,rfl,rfl,rfl⟩ rfl rfl rfl rfl rfl (by kernel_rfl) Tryz.func3 facts
  (of_decide_eq_true (by kernel_rfl)) (by unfold Func.isWrapper; first | (rw [if_pos (by decide +kernel)]; kernel_rfl) | (rw [if_neg (by decide +kernel)]; exact ⟨rfl,rfl⟩))
  (fun os started H enc _ F => lifted os started H enc F)
end Go.Proofs.YtopaaegigcfkeaaGreat.topSilent
#print axioms Go.Proofs.YtopaaegigcfkeaaGreat.topSilent.proved
