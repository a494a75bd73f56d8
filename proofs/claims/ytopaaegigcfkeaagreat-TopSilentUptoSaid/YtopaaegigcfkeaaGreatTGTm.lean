/- own -/
import Derived.Test.YtopaaegigcfkeaaGreatTGTf
set_option maxRecDepth 100000
set_option maxHeartbeats 4000000
set_option linter.unusedSimpArgs false
set_option linter.unusedVariables false
namespace Go.Proofs.YtopaaegigcfkeaaGreat
open Go.V Go
def ixF_Tm (fr : Go.V.Fr) (k : Nat) : Go.V.D := Go.V.nth .junk fr.loc k
theorem tabD_low {s0 st : St} {x : D} {l : List Fl} (ht : tabD s0 x = some l) (h : ∀ k,k < s0.bs.length -> st.bs[k]? = s0.bs[k]?) : tabD st x = some l := by
 rcases tabD_some ht with ⟨rfl,rfl⟩ | ⟨kl,vl,ol,c,rfl,hm,_⟩
 ·rfl
 ·rw [<- ht]
  have hk := (List.getElem?_eq_some_iff.1 (mem_spec hm).1).1
  have : st.mem? kl vl = s0.mem? kl vl := by unfold St.mem?; rw [h kl hk]
  unfold tabD
  simp only [this]
theorem Res3 {P : Pv} {fr : Fr} {st : St} {N : Nat} {S : St} {H : List Ent} {a k ver off j t1 u : Nat} {t : TypeId} {ar : Bool} {c : List D} {d e g : D} (hH : Has N S st H) (h1 : fr.get t1 = g) (ha : fr.get a = .ptr k ver off) (hj : H[j]? = some (.box k (.mem ver ar c))) (hd : takeD P t (c.drop off) = some d) (he : fr.get u = e) : resD P fr st [.tmp t1, .cell a t, .tmp u] = some [g,d,e] := by
 simp only [resD,loadD,ha,St.mem_of (hH.at hj),Option.bind_some,hd,Option.map_some,he,h1]
theorem Res2 {P : Pv} {fr : Fr} {st : St} {N : Nat} {S : St} {H : List Ent} {a k ver off j t1 : Nat} {t : TypeId} {ar : Bool} {c : List D} {d g : D} (hH : Has N S st H) (h1 : fr.get t1 = g) (ha : fr.get a = .ptr k ver off) (hj : H[j]? = some (.box k (.mem ver ar c))) (hd : takeD P t (c.drop off) = some d) : resD P fr st [.tmp t1, .cell a t] = some [g,d] := by
 simp only [resD,loadD,ha,St.mem_of (hH.at hj),Option.bind_some,hd,Option.map_some,h1]
theorem frzA {n : Nat} {b : D} {nm : List UInt8} (h : OldB n b) (st : St) (f : Nat) : freezeD st n true (f + 2) (.agg [.str nm,b]) = some (.agg [.str nm,b]) := by
 show (mapO (freezeD st n true (f + 1)) [.str nm,b]).map D.agg = _
 have e2 : ∀ z,freezeD st n true (f + 1) (.str z) = some (.str z) := fun _ => rfl
 simp only [mapO,h.freeze st f,e2,Option.map_some]
theorem frz3 {n : Nat} {b : D} {k : Int} {nm : List UInt8} (h : OldB n b) (st : St) (c : Bool) : freezeD st n true 16 (.tup [.int .i64 k, .agg [.str nm,b], .bool c]) = some (.tup [.int .i64 k, .agg [.str nm,b], .bool c]) := by
 show (mapO (freezeD st n true 15) [.int .i64 k, .agg [.str nm,b], .bool c]).map D.tup = _
 have e1 : ∀ z,freezeD st n true 15 (.int .i64 z) = some (.int .i64 z) := fun _ => rfl
 have e2 : ∀ z,freezeD st n true 15 (.bool z) = some (.bool z) := fun _ => rfl
 simp only [mapO,frzA h st 13,e1,e2,Option.map_some]
theorem frz2 {n : Nat} {b : D} {k : Int} {nm : List UInt8} (h : OldB n b) (st : St) : freezeD st n true 16 (.tup [.int .i64 k, .agg [.str nm,b]]) = some (.tup [.int .i64 k, .agg [.str nm,b]]) := by
 show (mapO (freezeD st n true 15) [.int .i64 k, .agg [.str nm,b]]).map D.tup = _
 have e1 : ∀ z,freezeD st n true 15 (.int .i64 z) = some (.int .i64 z) := fun _ => rfl
 simp only [mapO,frzA h st 13,e1,Option.map_some]
theorem frz2b {n : Nat} {b : D} {nm : List UInt8} (h : OldB n b) (st : St) (c : Bool) : freezeD st n true 16 (.tup [.agg [.str nm,b], .bool c]) = some (.tup [.agg [.str nm,b], .bool c]) := by
 show (mapO (freezeD st n true 15) [.agg [.str nm,b], .bool c]).map D.tup = _
 have e2 : ∀ z,freezeD st n true 15 (.bool z) = some (.bool z) := fun _ => rfl
 simp only [mapO,frzA h st 13,e2,Option.map_some]
theorem at_ev {s0 : St} {k i : Nat} {x : D} {l : List Fl} {r : Fl} (hbx : s0.bs[k]? = some (.mem 0 false [x])) (ht : tabD s0 x = some l) (hb : OldB s0.bs.length r.b) (hr0 : l[i]? = some r) : Ev pv 71 [.ptr k 0 0, .int .i64 (i : Nat)] s0 (.tup [.int .i64 r.k, .agg [.str r.nm,r.b], .bool true]) s0 := by
 obtain ⟨hr,hll⟩ := tab_rows ht
 have hkl : k < s0.bs.length := (List.getElem?_eq_some_iff.1 hbx).1
 have hil : i < l.length := (List.getElem?_eq_some_iff.1 hr0).1
 have hr1 := fl_get hr0
 have hcb := hb.cells
 have hlm : (l.map flC).length = l.length := List.length_map _
 refine Ev.mk1 rfl fi71 rfl rfl rfl ?_
 dsimp only [List.cons_append,List.nil_append,List.length,Nat.reduceSub,Nat.reduceAdd,List.replicate_succ,List.replicate_zero]
 have hSb : (enterSt .ro s0).bs = s0.bs := rfl
 have hF : (enterSt .ro s0).flr <= s0.bs.length := Nat.le_refl _
 have hH : Has s0.bs.length (enterSt .ro s0) (enterSt .ro s0) [] := Has.start (Nat.le_refl _) (Nat.le_refl _)
 generalize enterSt .ro s0 = S at *
 have hxa := Arg.of hr hSb
 have hpt : ∀ {st : St} {H : List Ent},Has s0.bs.length S st H -> PtTo st (.ptr k 0 0) [x] := fun {st H} h => by
  refine .inl ⟨k,0,0,false, [x],rfl,?_,rfl⟩
  unfold St.mem?
  rw [h.ex.low k hkl,hSb,hbx]; simp
 try change EvC _ _ _ _ _ _
 repeat refine EvC.seq ?_
 try generalize hK : SeqQ _ _ _ _ = K
 refine EvC.reg ?_
 refine EvO.mv (.inr rfl) rfl (ev rfl) (by dsimp only [Fr.put,List.set_cons_succ,List.set_cons_zero] <;> rfl) ?_
 refine EvO.halloc hH rfl rfl (fun _ => by dsimp only [Fr.put,List.set_cons_succ,List.set_cons_zero] <;> rfl) (fun k5 st hk5 hH => ?_)
 try dsimp only [List.set_cons_zero,List.set_cons_succ,List.cons_append,List.nil_append,setMany,List.map_cons,List.map_nil,D.cells,Nat.reduceAdd,List.nil_append,flC] at hH
 refine EvO.mv (.inr rfl) rfl (ev rfl) (by dsimp only [Fr.put,List.set_cons_succ,List.set_cons_zero] <;> rfl) ?_
 refine EvO.nil ?_
 try subst hK
 try change EvC _ _ _ _ _ _
 have hp1 := hpt hH
 have hg2 : decide (((i : Nat) : Int) < 0) = false := by rw [decide_eq_false_iff_not]; omega
 try change EvC _ _ _ _ _ _
 repeat refine EvC.seq ?_
 try generalize hK : SeqQ _ _ _ _ = K
 refine EvC.reg ?_
 refine EvO.mv (.inl rfl) rfl (ev rfl) (put_T rfl _) ?_
 refine EvO.go rfl rfl rfl (put_T rfl _) ?_
 refine EvO.mv (.inl rfl) rfl (ev rfl) (put_T rfl _) ?_
 refine EvO.mv (.inl rfl) (wantD_is rfl rfl rfl hg2) (ev rfl) (put_T rfl _) ?_
 refine EvO.mv (.inl rfl) (wantD_is rfl rfl rfl hg2) (ev rfl) (put_T rfl _) ?_
 refine EvO.go (d := .ptr k 0 0) (st1 := _) (wantD_is rfl rfl rfl hg2) rfl rfl (put_T rfl _) ?_
 refine EvO.pfield (fo := 0) (m := 0) (o := 0) (wantD_is rfl rfl rfl hg2) (ev rfl) rfl rfl (Nat.add_zero _) (put_T rfl _) ?_
 first | refine EvO.hload hH (wantD_is rfl rfl rfl hg2) (ev rfl) (by first | exact at0 | exact at1 | exact at2 | exact at3 | exact at4 | exact at5 | exact at6 | exact at7) rfl (put_T rfl _) ?_ | refine EvO.rload (wantD_is rfl rfl rfl hg2) (ev rfl) (by assumption) rfl (put_T rfl _) ?_ | refine EvO.oload hH (wantD_is rfl rfl rfl hg2) (ev rfl) (by assumption) (by first | exact at0 | exact at1 | exact at2 | exact at3 | exact at4 | exact at5 | exact at6 | exact at7) (by assumption) rfl (put_T rfl _) ?_
 first | refine EvO.rlen (wantD_is rfl rfl rfl hg2) (ev rfl) (Arg.rows (by assumption) hH) rfl (put_T rfl _) ?_ | refine EvO.rlen (wantD_is rfl rfl rfl hg2) (ev rfl) (hH.rows (by first | exact at0 | exact at1 | exact at2 | exact at3 | exact at4 | exact at5 | exact at6 | exact at7)) rfl (put_T rfl _) ?_ | refine EvO.slen (wantD_is rfl rfl rfl hg2) rfl rfl (put_T rfl _) ?_ | refine EvO.go (wantD_is rfl rfl rfl hg2) rfl rfl (put_T rfl _) ?_
 try simp only [List.length_map,List.length_append,List.length_cons,List.length_nil,List.length_set,List.length_replicate,List.length_reverse]
 refine EvO.go (wantD_is rfl rfl rfl hg2) rfl rfl (put_T rfl _) ?_
 refine EvO.pickF rfl rfl hg2 (put_T rfl _) ?_
 refine EvO.nil ?_
 try subst hK
 try change EvC _ _ _ _ _ _
 try change EvC _ _ _ _ _ _
 repeat refine EvC.seq ?_
 refine EvC.cond (by first | rfl | assumption) (fun h1 => ?_) (fun h1 => ?_) <;> try simp only [decide_eq_true_eq,decide_eq_false_iff_not,beq_iff_eq,beq_eq_false_iff_ne,bne_iff_ne,bne_eq_false_iff_eq,ne_eq,Bool.not_eq_true',Bool.not_eq_false',Bool.not_eq_true,Bool.not_eq_false] at h1
 ·omega
 ·refine EvC.skip ?_
  try change EvC _ _ _ _ _ _
  have hp1 := hpt hH
  try change EvC _ _ _ _ _ _
  repeat refine EvC.seq ?_
  try generalize hK : SeqQ _ _ _ _ = K
  refine EvC.reg ?_
  refine EvO.mv (.inl rfl) rfl (ev rfl) (put_T rfl _) ?_
  refine EvO.go (d := .ptr k 0 0) (st1 := _) rfl rfl rfl (put_T rfl _) ?_
  refine EvO.pfield (fo := 0) (m := 0) (o := 0) rfl (ev rfl) rfl rfl (Nat.add_zero _) (put_T rfl _) ?_
  first | refine EvO.hload hH rfl (ev rfl) (by first | exact at0 | exact at1 | exact at2 | exact at3 | exact at4 | exact at5 | exact at6 | exact at7) rfl (put_T rfl _) ?_ | refine EvO.rload rfl (ev rfl) (by assumption) rfl (put_T rfl _) ?_ | refine EvO.oload hH rfl (ev rfl) (by assumption) (by first | exact at0 | exact at1 | exact at2 | exact at3 | exact at4 | exact at5 | exact at6 | exact at7) (by assumption) rfl (put_T rfl _) ?_
  refine EvO.mv (.inl rfl) rfl (ev rfl) (put_T rfl _) ?_
  first | refine EvO.ridx rfl (ev rfl) (ev rfl) (Arg.rows (by assumption) hH) rfl rfl (by assumption) (fun _ => (put_T rfl _)) (fun p28 hp28 => ?_) | refine EvO.oidx hH rfl (ev rfl) (ev rfl) (by first | exact at0 | exact at1 | exact at2 | exact at3 | exact at4 | exact at5 | exact at6 | exact at7) rfl rfl (by first | exact lt_get (by assumption) | omega | (simp only [List.length_map,List.length_append,List.length_cons,List.length_nil,List.length_set,List.length_replicate] <;> omega)) (fun _ => (put_T rfl _)) (fun p28 hp28 => ?_)
  first | refine EvO.rfieldN (fo := 0) (m := 0) rfl (ev rfl) (by assumption) rfl rfl (fun _ => (put_T rfl _)) (fun p29 hp29 => ?_) | refine EvO.ofieldN (fo := 0) (m := 0) (o2 := 0) rfl (ev rfl) (by assumption) rfl rfl rfl (fun _ => (put_T rfl _)) (fun p29 hp29 => ?_)
  first | refine EvO.rload rfl (ev rfl) (by assumption) rfl (put_T rfl _) ?_ | refine EvO.oload hH rfl (ev rfl) (by assumption) (by first | exact at0 | exact at1 | exact at2 | exact at3 | exact at4 | exact at5 | exact at6 | exact at7) (by assumption) rfl (put_T rfl _) ?_ | refine EvO.hload hH rfl (ev rfl) (by first | exact at0 | exact at1 | exact at2 | exact at3 | exact at4 | exact at5 | exact at6 | exact at7) rfl (put_T rfl _) ?_
  refine EvO.mv (.inl rfl) rfl (ev rfl) (put_T rfl _) ?_
  refine EvO.go (d := .ptr k 0 0) (st1 := _) rfl rfl rfl (put_T rfl _) ?_
  refine EvO.pfield (fo := 0) (m := 0) (o := 0) rfl (ev rfl) rfl rfl (Nat.add_zero _) (put_T rfl _) ?_
  first | refine EvO.hload hH rfl (ev rfl) (by first | exact at0 | exact at1 | exact at2 | exact at3 | exact at4 | exact at5 | exact at6 | exact at7) rfl (put_T rfl _) ?_ | refine EvO.rload rfl (ev rfl) (by assumption) rfl (put_T rfl _) ?_ | refine EvO.oload hH rfl (ev rfl) (by assumption) (by first | exact at0 | exact at1 | exact at2 | exact at3 | exact at4 | exact at5 | exact at6 | exact at7) (by assumption) rfl (put_T rfl _) ?_
  refine EvO.mv (.inl rfl) rfl (ev rfl) (put_T rfl _) ?_
  first | refine EvO.ridx rfl (ev rfl) (ev rfl) (Arg.rows (by assumption) hH) rfl rfl (by assumption) (fun _ => (put_T rfl _)) (fun p36 hp36 => ?_) | refine EvO.oidx hH rfl (ev rfl) (ev rfl) (by first | exact at0 | exact at1 | exact at2 | exact at3 | exact at4 | exact at5 | exact at6 | exact at7) rfl rfl (by first | exact lt_get (by assumption) | omega | (simp only [List.length_map,List.length_append,List.length_cons,List.length_nil,List.length_set,List.length_replicate] <;> omega)) (fun _ => (put_T rfl _)) (fun p36 hp36 => ?_)
  first | refine EvO.rfieldN (fo := 1) (m := 1) rfl (ev rfl) (by assumption) rfl rfl (fun _ => (put_T rfl _)) (fun p37 hp37 => ?_) | refine EvO.ofieldN (fo := 1) (m := 1) (o2 := 1) rfl (ev rfl) (by assumption) rfl rfl rfl (fun _ => (put_T rfl _)) (fun p37 hp37 => ?_)
  first | refine EvO.rload rfl (ev rfl) (by assumption) rfl (put_T rfl _) ?_ | refine EvO.oload hH rfl (ev rfl) (by assumption) (by first | exact at0 | exact at1 | exact at2 | exact at3 | exact at4 | exact at5 | exact at6 | exact at7) (by assumption) rfl (put_T rfl _) ?_ | refine EvO.hloadS (m := 2) hH rfl (ev rfl) (by first | exact at0 | exact at1 | exact at2 | exact at3 | exact at4 | exact at5 | exact at6 | exact at7) (by dsimp only [List.drop_succ_cons,List.drop_zero,List.take_succ_cons,List.take_zero,flC] <;> rfl) rfl rfl (put_T rfl _) ?_
  refine EvO.mv (.inr rfl) rfl (ev rfl) (by dsimp only [Fr.put,List.set_cons_succ,List.set_cons_zero] <;> rfl) ?_
  refine EvO.hstoreA hH rfl (ev rfl) (ev rfl) (by first | rfl | exact (SlD.cells (by assumption)).1 | exact hH.ocells (by first | exact at0 | exact at1 | exact at2 | exact at3 | exact at4 | exact at5 | exact at6 | exact at7) | exact hH.dcells (by first | exact at0 | exact at1 | exact at2 | exact at3 | exact at4 | exact at5 | exact at6 | exact at7) | assumption) (by exact rfl) (by first | exact at0 | exact at1 | exact at2 | exact at3 | exact at4 | exact at5 | exact at6 | exact at7) (by exact rfl) (by first | exact .inl hF | exact .inr rfl | exact .inr (by assumption)) (fun st hH => ?_)
  try dsimp only [List.set_cons_zero,List.set_cons_succ,List.cons_append,List.nil_append,setMany,List.map_cons,List.map_nil,D.cells,Nat.reduceAdd,List.nil_append,flC] at hH
  refine EvO.mv (.inr rfl) rfl (ev rfl) (by dsimp only [Fr.put,List.set_cons_succ,List.set_cons_zero] <;> rfl) ?_
  refine EvO.nil ?_
  try subst hK
  try change EvC _ _ _ _ _ _
  refine EvC.ret ⟨fun i h => (by cases h),_,Res3 hH rfl rfl at0 rfl rfl,leave_ro (by simp) hSb hH (frz3 hb _ _)⟩
theorem getF_ev {s0 : St} {k : Nat} {key : Int} {x : D} {l : List Fl} (hbx : s0.bs[k]? = some (.mem 0 false [x])) (ht : tabD s0 x = some l) (hb : ∀ r ∈ l,OldB s0.bs.length r.b) : ∃ d,Ev pv 46 [.ptr k 0 0, .int .i64 key] s0 d s0 /\ ∃ nm b,d = .tup [.agg [.str nm,b], .bool (thereT l key)] := by
 obtain ⟨hr,hll⟩ := tab_rows ht
 have hkl : k < s0.bs.length := (List.getElem?_eq_some_iff.1 hbx).1
 refine Ev.mkR rfl fi46 rfl rfl rfl ?_
 dsimp only [List.cons_append,List.nil_append,List.length,Nat.reduceSub,Nat.reduceAdd,List.replicate_succ,List.replicate_zero]
 have hSb : (enterSt .ro s0).bs = s0.bs := rfl
 have hF : (enterSt .ro s0).flr <= s0.bs.length := Nat.le_refl _
 have hH : Has s0.bs.length (enterSt .ro s0) (enterSt .ro s0) [] := Has.start (Nat.le_refl _) (Nat.le_refl _)
 generalize enterSt .ro s0 = S at *
 have hxa := Arg.of hr hSb
 have hpt : ∀ {st : St} {H : List Ent},Has s0.bs.length S st H -> PtTo st (.ptr k 0 0) [x] := fun {st H} h => by
  refine .inl ⟨k,0,0,false, [x],rfl,?_,rfl⟩
  unfold St.mem?
  rw [h.ex.low k hkl,hSb,hbx]; simp
 try change EvC _ _ _ _ _ _
 repeat refine EvC.seq ?_
 try generalize hK : SeqQ _ _ _ _ = K
 refine EvC.reg ?_
 refine EvO.halloc hH rfl rfl (fun _ => by dsimp only [Fr.put,List.set_cons_succ,List.set_cons_zero] <;> rfl) (fun k4 st hk4 hH => ?_)
 try dsimp only [List.set_cons_zero,List.set_cons_succ,List.cons_append,List.nil_append,setMany,List.map_cons,List.map_nil,D.cells,Nat.reduceAdd,List.nil_append,flC] at hH
 refine EvO.mv (.inr rfl) rfl (ev rfl) (by dsimp only [Fr.put,List.set_cons_succ,List.set_cons_zero] <;> rfl) ?_
 refine EvO.nil ?_
 try subst hK
 try change EvC _ _ _ _ _ _
 have hst : st.bs[k]? = some (.mem 0 false [x]) := by rw [hH.ex.low k hkl,hSb]; exact hbx
 have hf := findF_ev (s0 := st) (key := key) (off := 0) (St.mem_of hst) rfl (tabD_low ht (fun k hk => by rw [hH.ex.low k hk,hSb]))
 try change EvC _ _ _ _ _ _
 repeat refine EvC.seq ?_
 try generalize hK : SeqQ _ _ _ _ = K
 refine EvC.reg ?_
 refine EvO.mv (.inl rfl) rfl (ev rfl) (put_T rfl _) ?_
 refine EvO.mv (.inl rfl) rfl (ev rfl) (put_T rfl _) ?_
 refine EvO.hcall rfl rfl hf (put_T rfl _) ?_
 refine EvO.mv (.inl rfl) rfl (ev rfl) (put_T rfl _) ?_
 refine EvO.go rfl rfl rfl (put_T rfl _) ?_
 refine EvO.go rfl rfl rfl (put_T rfl _) ?_
 refine EvO.mv (.inr rfl) rfl (ev rfl) (by dsimp only [Fr.put,List.set_cons_succ,List.set_cons_zero] <;> rfl) ?_
 refine EvO.mv (.inr rfl) rfl (ev rfl) (by dsimp only [Fr.put,List.set_cons_succ,List.set_cons_zero] <;> rfl) ?_
 refine EvO.nil ?_
 try subst hK
 try change EvC _ _ _ _ _ _
 try change EvC _ _ _ _ _ _
 repeat refine EvC.seq ?_
 try generalize hK : SeqQ _ _ _ _ = K
 refine EvC.reg ?_
 refine EvO.mv (.inl rfl) rfl (ev rfl) (put_T rfl _) ?_
 refine EvO.go rfl rfl rfl (put_T rfl _) ?_
 refine EvO.nil ?_
 try subst hK
 try change EvC _ _ _ _ _ _
 cases hth : thereT l key with
 | false =>
  try change EvC _ _ _ _ _ _
  repeat refine EvC.seq ?_
  refine EvC.cond (v := true) (by first | assumption | (dsimp only [Fr.ev,Fr.get,nth,Go.V.look]; rfl)) (fun _ => ?_) (fun h => by cases h)
  try change EvC _ _ _ _ _ _
  try change EvC _ _ _ _ _ _
  repeat refine EvC.seq ?_
  try generalize hK : SeqQ _ _ _ _ = K
  refine EvC.reg ?_
  refine EvO.halloc hH rfl rfl (fun _ => by dsimp only [Fr.put,List.set_cons_succ,List.set_cons_zero] <;> rfl) (fun k8 st hk8 hH => ?_)
  try dsimp only [List.set_cons_zero,List.set_cons_succ,List.cons_append,List.nil_append,setMany,List.map_cons,List.map_nil,D.cells,Nat.reduceAdd,List.nil_append,flC] at hH
  refine EvO.nil ?_
  try subst hK
  try change EvC _ _ _ _ _ _
  try change EvC _ _ _ _ _ _
  repeat refine EvC.seq ?_
  try generalize hK : SeqQ _ _ _ _ = K
  refine EvC.reg ?_
  first | refine EvO.hloadS (m := 2) hH rfl (ev rfl) (by first | exact at0 | exact at1 | exact at2 | exact at3 | exact at4 | exact at5 | exact at6 | exact at7) (by dsimp only [List.drop_succ_cons,List.drop_zero,List.take_succ_cons,List.take_zero,flC] <;> rfl) rfl rfl (put_T rfl _) ?_ | refine EvO.rload rfl (ev rfl) (by assumption) rfl (put_T rfl _) ?_ | refine EvO.oload hH rfl (ev rfl) (by assumption) (by first | exact at0 | exact at1 | exact at2 | exact at3 | exact at4 | exact at5 | exact at6 | exact at7) (by assumption) rfl (put_T rfl _) ?_
  refine EvO.hstoreA hH rfl (ev rfl) (ev rfl) (by first | rfl | exact (SlD.cells (by assumption)).1 | exact hH.ocells (by first | exact at0 | exact at1 | exact at2 | exact at3 | exact at4 | exact at5 | exact at6 | exact at7) | exact hH.dcells (by first | exact at0 | exact at1 | exact at2 | exact at3 | exact at4 | exact at5 | exact at6 | exact at7) | assumption) (by exact rfl) (by first | exact at0 | exact at1 | exact at2 | exact at3 | exact at4 | exact at5 | exact at6 | exact at7) (by exact rfl) (by first | exact .inl hF | exact .inr rfl | exact .inr (by assumption)) (fun st hH => ?_)
  try dsimp only [List.set_cons_zero,List.set_cons_succ,List.cons_append,List.nil_append,setMany,List.map_cons,List.map_nil,D.cells,Nat.reduceAdd,List.nil_append,flC] at hH
  refine EvO.mv (.inr rfl) rfl (ev rfl) (by dsimp only [Fr.put,List.set_cons_succ,List.set_cons_zero] <;> rfl) ?_
  refine EvO.nil ?_
  try subst hK
  try change EvC _ _ _ _ _ _
  refine EvC.ret ⟨fun i h => (by cases h),_,_,hH.resCellT rfl (by first | exact at0 | exact at1) rfl rfl,leave_ro (by simp) hSb hH rfl,?_⟩
  exact ⟨_,_,rfl⟩
 | true =>
  obtain ⟨r,hr0,hrk⟩ := there_at hth
  have hr1 := fl_get hr0
  have hob := hb r (List.mem_of_getElem? hr0)
  have hcb := hob.cells
  try change EvC _ _ _ _ _ _
  repeat refine EvC.seq ?_
  refine EvC.cond (v := false) (by first | assumption | (dsimp only [Fr.ev,Fr.get,nth,Go.V.look]; rfl)) (fun h => by cases h) (fun _ => ?_)
  try change EvC _ _ _ _ _ _
  refine EvC.skip ?_
  try change EvC _ _ _ _ _ _
  have hp1 := hpt hH
  try change EvC _ _ _ _ _ _
  repeat refine EvC.seq ?_
  try generalize hK : SeqQ _ _ _ _ = K
  refine EvC.reg ?_
  refine EvO.mv (.inl rfl) rfl (ev rfl) (put_T rfl _) ?_
  refine EvO.go (d := .ptr k 0 0) (st1 := _) rfl rfl rfl (put_T rfl _) ?_
  refine EvO.pfield (fo := 0) (m := 0) (o := 0) rfl (ev rfl) rfl rfl (Nat.add_zero _) (put_T rfl _) ?_
  first | refine EvO.hload hH rfl (ev rfl) (by first | exact at0 | exact at1 | exact at2 | exact at3 | exact at4 | exact at5 | exact at6 | exact at7) rfl (put_T rfl _) ?_ | refine EvO.rload rfl (ev rfl) (by assumption) rfl (put_T rfl _) ?_ | refine EvO.oload hH rfl (ev rfl) (by assumption) (by first | exact at0 | exact at1 | exact at2 | exact at3 | exact at4 | exact at5 | exact at6 | exact at7) (by assumption) rfl (put_T rfl _) ?_
  refine EvO.mv (.inl rfl) rfl (ev rfl) (put_T rfl _) ?_
  first | refine EvO.ridx rfl (ev rfl) (ev rfl) (Arg.rows (by assumption) hH) rfl rfl (by assumption) (fun _ => (put_T rfl _)) (fun p23 hp23 => ?_) | refine EvO.oidx hH rfl (ev rfl) (ev rfl) (by first | exact at0 | exact at1 | exact at2 | exact at3 | exact at4 | exact at5 | exact at6 | exact at7) rfl rfl (by first | exact lt_get (by assumption) | omega | (simp only [List.length_map,List.length_append,List.length_cons,List.length_nil,List.length_set,List.length_replicate] <;> omega)) (fun _ => (put_T rfl _)) (fun p23 hp23 => ?_)
  first | refine EvO.rfieldN (fo := 1) (m := 1) rfl (ev rfl) (by assumption) rfl rfl (fun _ => (put_T rfl _)) (fun p24 hp24 => ?_) | refine EvO.ofieldN (fo := 1) (m := 1) (o2 := 1) rfl (ev rfl) (by assumption) rfl rfl rfl (fun _ => (put_T rfl _)) (fun p24 hp24 => ?_)
  first | refine EvO.rload rfl (ev rfl) (by assumption) rfl (put_T rfl _) ?_ | refine EvO.oload hH rfl (ev rfl) (by assumption) (by first | exact at0 | exact at1 | exact at2 | exact at3 | exact at4 | exact at5 | exact at6 | exact at7) (by assumption) rfl (put_T rfl _) ?_ | refine EvO.hloadS (m := 2) hH rfl (ev rfl) (by first | exact at0 | exact at1 | exact at2 | exact at3 | exact at4 | exact at5 | exact at6 | exact at7) (by dsimp only [List.drop_succ_cons,List.drop_zero,List.take_succ_cons,List.take_zero,flC] <;> rfl) rfl rfl (put_T rfl _) ?_
  refine EvO.hstoreA hH rfl (ev rfl) (ev rfl) (by first | rfl | exact (SlD.cells (by assumption)).1 | exact hH.ocells (by first | exact at0 | exact at1 | exact at2 | exact at3 | exact at4 | exact at5 | exact at6 | exact at7) | exact hH.dcells (by first | exact at0 | exact at1 | exact at2 | exact at3 | exact at4 | exact at5 | exact at6 | exact at7) | assumption) (by exact rfl) (by first | exact at0 | exact at1 | exact at2 | exact at3 | exact at4 | exact at5 | exact at6 | exact at7) (by exact rfl) (by first | exact .inl hF | exact .inr rfl | exact .inr (by assumption)) (fun st hH => ?_)
  try dsimp only [List.set_cons_zero,List.set_cons_succ,List.cons_append,List.nil_append,setMany,List.map_cons,List.map_nil,D.cells,Nat.reduceAdd,List.nil_append,flC] at hH
  refine EvO.mv (.inr rfl) rfl (ev rfl) (by dsimp only [Fr.put,List.set_cons_succ,List.set_cons_zero] <;> rfl) ?_
  refine EvO.nil ?_
  try subst hK
  try change EvC _ _ _ _ _ _
  refine EvC.ret ⟨fun i h => (by cases h),_,_,hH.resCellT rfl (by first | exact at0 | exact at1) rfl rfl,leave_ro (by simp) hSb hH (frz2b hob _ _),?_⟩
  exact ⟨_,_,rfl⟩
def Found (l : List Fl) (ino : Int) (f : List UInt8) (b : D) : Prop := ino = 0 \/ ∃ i : Nat,l[i]? = some ⟨ino,f,b⟩
theorem yfind_ev {s0 : St} {ky kf : Nat} {nm : List UInt8} {a x : D} {l : List Fl} (hky : s0.bs[ky]? = some (.mem 0 false [.ptr kf 0 0,a])) (hkf : s0.bs[kf]? = some (.mem 0 false [x])) (ht : tabD s0 x = some l) (hb : ∀ r ∈ l,OldB s0.bs.length r.b) : ∃ d,Ev pv 44 [.ptr ky 0 0, .str nm] s0 d s0 /\ ∃ ino f b,d = .tup [.int .i64 ino, .agg [.str f,b]] /\ b.cells? = some [b] /\ Found l ino f b := by
 have hll := (tab_rows ht).2
 have hkl : kf < s0.bs.length := (List.getElem?_eq_some_iff.1 hkf).1
 refine Ev.mkR rfl fi44 rfl rfl rfl ?_
 dsimp only [List.cons_append,List.nil_append,List.length,Nat.reduceSub,Nat.reduceAdd,List.replicate_succ,List.replicate_zero]
 have hSb : (enterSt .ro s0).bs = s0.bs := rfl
 have hF : (enterSt .ro s0).flr <= s0.bs.length := Nat.le_refl _
 have hH : Has s0.bs.length (enterSt .ro s0) (enterSt .ro s0) [] := Has.start (Nat.le_refl _) (Nat.le_refl _)
 generalize enterSt .ro s0 = S at *
 have hlow : ∀ {st : St} {H : List Ent},Has s0.bs.length S st H -> st.bs[kf]? = some (.mem 0 false [x]) /\ tabD st x = some l /\ s0.bs.length <= st.bs.length := fun h => ⟨by rw [h.ex.low _ hkl,hSb]; exact hkf,tabD_low ht (fun k hk => by rw [h.ex.low k hk,hSb]),by have := h.len; rw [hSb] at this; exact this⟩
 have hold : ∀ {st : St},s0.bs.length <= st.bs.length -> ∀ r ∈ l,OldB st.bs.length r.b := fun h r hr => by
  rcases hb r hr with h1 | ⟨k,v,o,m,h1,h2⟩
  ·exact .inl h1
  ·exact .inr ⟨k,v,o,m,h1,by omega⟩
 try change EvC _ _ _ _ _ _
 repeat refine EvC.seq ?_
 try generalize hK : SeqQ _ _ _ _ = K
 refine EvC.reg ?_
 refine EvO.mv (.inr rfl) rfl (ev rfl) (by dsimp only [Fr.put,List.set_cons_succ,List.set_cons_zero] <;> rfl) ?_
 refine EvO.halloc hH rfl rfl (fun _ => by dsimp only [Fr.put,List.set_cons_succ,List.set_cons_zero] <;> rfl) (fun k5 st hk5 hH => ?_)
 try dsimp only [List.set_cons_zero,List.set_cons_succ,List.cons_append,List.nil_append,setMany,List.map_cons,List.map_nil,D.cells,Nat.reduceAdd,List.nil_append,flC] at hH
 refine EvO.nil ?_
 try subst hK
 try change EvC _ _ _ _ _ _
 have hp1 := ptr_is hky hSb hH
 obtain ⟨hl1,hl2,hl3⟩ := hlow hH
 try change EvC _ _ _ _ _ _
 repeat refine EvC.seq ?_
 try generalize hK : SeqQ _ _ _ _ = K
 refine EvC.reg ?_
 refine EvO.mv (.inl rfl) rfl (ev rfl) (by dsimp only [Fr.put,List.set_cons_succ,List.set_cons_zero] <;> rfl) ?_
 refine EvO.go (d := .ptr ky 0 0) (st1 := _) rfl rfl rfl (by dsimp only [Fr.put,List.set_cons_succ,List.set_cons_zero] <;> rfl) ?_
 refine EvO.rfieldN (fo := 0) (m := 0) rfl (ev rfl) hp1 rfl rfl (fun _ => by dsimp only [Fr.put,List.set_cons_succ,List.set_cons_zero] <;> rfl) (fun p10 hp10 => ?_)
 refine EvO.rload (d := .ptr kf 0 0) rfl (ev rfl) hp10 rfl (by dsimp only [Fr.put,List.set_cons_succ,List.set_cons_zero] <;> rfl) ?_
 refine EvO.hcall rfl rfl (lenF_ev hl1 hl2) (by dsimp only [Fr.put,List.set_cons_succ,List.set_cons_zero] <;> rfl) ?_
 refine EvO.mv (.inl rfl) rfl (ev rfl) (by dsimp only [Fr.put,List.set_cons_succ,List.set_cons_zero] <;> rfl) ?_
 refine EvO.nil ?_
 try subst hK
 try change EvC _ _ _ _ _ _
 try change EvC _ _ _ _ _ _
 repeat refine EvC.seq ?_
 refine EvC.block ?_
 refine EvC.loop (fun mm fr st => ∃ (i : Nat),fr.clean = ⟨16, [.ptr ky 0 0, .str nm,ixF_Tm fr 2,ixF_Tm fr 3, .int .i64 0, .ptr k5 0 0,ixF_Tm fr 6,ixF_Tm fr 7,ixF_Tm fr 8,ixF_Tm fr 9,ixF_Tm fr 10,ixF_Tm fr 11,ixF_Tm fr 12,ixF_Tm fr 13, .int .i64 (l.length : Nat), .int .i64 (i : Nat)], []⟩ /\ Has s0.bs.length S st [.box k5 (.mem 0 false [.str [], .nul])] /\ (i + mm = l.length)) (l.length) ?_ ?_
 ·exact ⟨0,rfl,hH,by omega⟩
 rintro mm fr st ⟨i,hfr,hH,hi⟩
 rw [hfr]
 clear hfr
 try generalize ixF_Tm fr = ee
 clear fr
 try change EvC _ _ _ _ _ _
 try change EvC _ _ _ _ _ _
 repeat refine EvC.seq ?_
 try generalize hK : SeqQ _ _ _ _ = K
 refine EvC.reg ?_
 refine EvO.go rfl rfl rfl (put_T rfl _) ?_
 refine EvO.nil ?_
 try subst hK
 try change EvC _ _ _ _ _ _
 try change EvC _ _ _ _ _ _
 repeat refine EvC.seq ?_
 refine EvC.cond (by first | rfl | assumption) (fun h1 => ?_) (fun h1 => ?_) <;> try simp only [decide_eq_true_eq,decide_eq_false_iff_not,beq_iff_eq,beq_eq_false_iff_ne,bne_iff_ne,bne_eq_false_iff_eq,ne_eq,Bool.not_eq_true',Bool.not_eq_false',Bool.not_eq_true,Bool.not_eq_false] at h1
 ·refine EvC.skip ?_
  try change EvC _ _ _ _ _ _
  obtain ⟨r,hr0⟩ : ∃ r,l[i]? = some r := ⟨l[i]'(by omega),List.getElem?_eq_getElem _⟩
  try change EvC _ _ _ _ _ _
  repeat refine EvC.seq ?_
  refine EvC.block ?_
  try change EvC _ _ _ _ _ _
  repeat refine EvC.seq ?_
  try generalize hK : SeqQ _ _ _ _ = K
  refine EvC.reg ?_
  refine EvO.mv (.inl rfl) rfl (ev rfl) (put_T rfl _) ?_
  refine EvO.mv (.inr rfl) rfl (ev rfl) (by dsimp only [Fr.put,List.set_cons_succ,List.set_cons_zero] <;> rfl) ?_
  refine EvO.nil ?_
  try subst hK
  try change EvC _ _ _ _ _ _
  have hp1 := ptr_is hky hSb hH
  obtain ⟨hl1,hl2,hl3⟩ := hlow hH
  have hob := hb r (List.mem_of_getElem? hr0)
  have hcb := hob.cells
  have hat := at_ev hl1 hl2 (hold hl3 r (List.mem_of_getElem? hr0)) hr0
  try change EvC _ _ _ _ _ _
  repeat refine EvC.seq ?_
  try generalize hK : SeqQ _ _ _ _ = K
  refine EvC.reg ?_
  refine EvO.mv (.inl rfl) rfl (ev rfl) (put_T rfl _) ?_
  refine EvO.go (d := .ptr ky 0 0) (st1 := _) rfl rfl rfl (put_T rfl _) ?_
  refine EvO.rfieldN (fo := 0) (m := 0) rfl (ev rfl) hp1 rfl rfl (fun _ => (put_T rfl _)) (fun p10 hp10 => ?_)
  refine EvO.rload (d := .ptr kf 0 0) rfl (ev rfl) hp10 rfl (put_T rfl _) ?_
  refine EvO.mv (.inl rfl) rfl (ev rfl) (put_T rfl _) ?_
  refine EvO.hcall rfl rfl hat (put_T rfl _) ?_
  refine EvO.mv (.inl rfl) rfl (ev rfl) (put_T rfl _) ?_
  refine EvO.go rfl rfl rfl (put_T rfl _) ?_
  refine EvO.go rfl rfl rfl (put_T rfl _) ?_
  refine EvO.go rfl rfl rfl (put_T rfl _) ?_
  refine EvO.halloc hH rfl rfl (fun _ => by dsimp only [Fr.put,List.set_cons_succ,List.set_cons_zero] <;> rfl) (fun k8 st hk8 hH => ?_)
  try dsimp only [List.set_cons_zero,List.set_cons_succ,List.cons_append,List.nil_append,setMany,List.map_cons,List.map_nil,D.cells,Nat.reduceAdd,List.nil_append,flC] at hH
  refine EvO.mv (.inr rfl) rfl (ev rfl) (by dsimp only [Fr.put,List.set_cons_succ,List.set_cons_zero] <;> rfl) ?_
  refine EvO.hstoreA hH rfl (ev rfl) (ev rfl) (by first | rfl | exact (SlD.cells (by assumption)).1 | exact hH.ocells (by first | exact at0 | exact at1 | exact at2 | exact at3 | exact at4 | exact at5 | exact at6 | exact at7) | exact hH.dcells (by first | exact at0 | exact at1 | exact at2 | exact at3 | exact at4 | exact at5 | exact at6 | exact at7) | assumption) (by exact rfl) (by first | exact at0 | exact at1 | exact at2 | exact at3 | exact at4 | exact at5 | exact at6 | exact at7) (by exact rfl) (by first | exact .inl hF | exact .inr rfl | exact .inr (by assumption)) (fun st hH => ?_)
  try dsimp only [List.set_cons_zero,List.set_cons_succ,List.cons_append,List.nil_append,setMany,List.map_cons,List.map_nil,D.cells,Nat.reduceAdd,List.nil_append,flC] at hH
  refine EvO.mv (.inr rfl) rfl (ev rfl) (by dsimp only [Fr.put,List.set_cons_succ,List.set_cons_zero] <;> rfl) ?_
  refine EvO.nil ?_
  try subst hK
  try change EvC _ _ _ _ _ _
  try change EvC _ _ _ _ _ _
  repeat refine EvC.seq ?_
  try generalize hK : SeqQ _ _ _ _ = K
  refine EvC.reg ?_
  refine EvO.pfield (fo := 0) (m := 0) (o := 0) rfl (ev rfl) rfl rfl rfl (put_T rfl _) ?_
  first | refine EvO.hload hH rfl (ev rfl) (by first | exact at0 | exact at1 | exact at2 | exact at3 | exact at4 | exact at5 | exact at6 | exact at7) rfl (put_T rfl _) ?_ | refine EvO.rload rfl (ev rfl) (by assumption) rfl (put_T rfl _) ?_ | refine EvO.oload hH rfl (ev rfl) (by assumption) (by first | exact at0 | exact at1 | exact at2 | exact at3 | exact at4 | exact at5 | exact at6 | exact at7) (by assumption) rfl (put_T rfl _) ?_
  refine EvO.mv (.inl rfl) rfl (ev rfl) (put_T rfl _) ?_
  refine EvO.go rfl rfl rfl (put_T rfl _) ?_
  refine EvO.nil ?_
  try subst hK
  try change EvC _ _ _ _ _ _
  try change EvC _ _ _ _ _ _
  repeat refine EvC.seq ?_
  refine EvC.cond (by first | rfl | assumption) (fun h2 => ?_) (fun h2 => ?_) <;> try simp only [decide_eq_true_eq,decide_eq_false_iff_not,beq_iff_eq,beq_eq_false_iff_ne,bne_iff_ne,bne_eq_false_iff_eq,ne_eq,Bool.not_eq_true',Bool.not_eq_false',Bool.not_eq_true,Bool.not_eq_false] at h2
  ·try change EvC _ _ _ _ _ _
   repeat refine EvC.seq ?_
   try generalize hK : SeqQ _ _ _ _ = K
   refine EvC.reg ?_
   refine EvO.mv (.inl rfl) rfl (ev rfl) (put_T rfl _) ?_
   first | refine EvO.hloadS (m := 2) hH rfl (ev rfl) (by first | exact at0 | exact at1 | exact at2 | exact at3 | exact at4 | exact at5 | exact at6 | exact at7) (by dsimp only [List.drop_succ_cons,List.drop_zero,List.take_succ_cons,List.take_zero,flC] <;> rfl) rfl rfl (put_T rfl _) ?_ | refine EvO.rload rfl (ev rfl) (by assumption) rfl (put_T rfl _) ?_ | refine EvO.oload hH rfl (ev rfl) (by assumption) (by first | exact at0 | exact at1 | exact at2 | exact at3 | exact at4 | exact at5 | exact at6 | exact at7) (by assumption) rfl (put_T rfl _) ?_
   refine EvO.mv (.inr rfl) rfl (ev rfl) (by dsimp only [Fr.put,List.set_cons_succ,List.set_cons_zero] <;> rfl) ?_
   refine EvO.hstoreA hH rfl (ev rfl) (ev rfl) (by first | rfl | exact (SlD.cells (by assumption)).1 | exact hH.ocells (by first | exact at0 | exact at1 | exact at2 | exact at3 | exact at4 | exact at5 | exact at6 | exact at7) | exact hH.dcells (by first | exact at0 | exact at1 | exact at2 | exact at3 | exact at4 | exact at5 | exact at6 | exact at7) | assumption) (by exact rfl) (by first | exact at0 | exact at1 | exact at2 | exact at3 | exact at4 | exact at5 | exact at6 | exact at7) (by exact rfl) (by first | exact .inl hF | exact .inr rfl | exact .inr (by assumption)) (fun st hH => ?_)
   try dsimp only [List.set_cons_zero,List.set_cons_succ,List.cons_append,List.nil_append,setMany,List.map_cons,List.map_nil,D.cells,Nat.reduceAdd,List.nil_append,flC] at hH
   refine EvO.nil ?_
   try subst hK
   try change EvC _ _ _ _ _ _
   refine EvC.ret ⟨fun i h => (by cases h),_,_,Res2 hH rfl rfl at1 rfl,leave_ro (by simp) hSb hH (frz2 hob _),?_⟩
   exact ⟨_,_,_,rfl,hcb, .inr ⟨i,hr0⟩⟩
  ·refine EvC.skip ?_
   try change EvC _ _ _ _ _ _
   try change EvC _ _ _ _ _ _
   repeat refine EvC.seq ?_
   try generalize hK : SeqQ _ _ _ _ = K
   refine EvC.reg ?_
   refine EvO.addZ (z := ((i + 1 : Nat) : Int)) rfl (ev rfl) (ev rfl) (by (try simp only [List.length_reverse,List.length_cons,List.length_nil,List.length_append,List.length_map,List.length_set]); first | (rw [wrap_i64 (by omega) (by omega)] <;> omega) | (rw [wrap_i32 (by omega) (by omega)] <;> omega)) (put_T rfl _) ?_
   refine EvO.mv (.inl rfl) rfl (ev rfl) (by dsimp only [Fr.put,List.set_cons_succ,List.set_cons_zero] <;> rfl) ?_
   refine EvO.nil ?_
   try subst hK
   try change EvC _ _ _ _ _ _
   exact ⟨mm - 1,by omega,⟨i + 1,rfl,hH.drop 1,by omega⟩⟩
 ·try change EvC _ _ _ _ _ _
  refine EvC.exit ?_
  try change EvC _ _ _ _ _ _
  try change EvC _ _ _ _ _ _
  repeat refine EvC.seq ?_
  try generalize hK : SeqQ _ _ _ _ = K
  refine EvC.reg ?_
  refine EvO.go rfl rfl rfl (put_T rfl _) ?_
  refine EvO.mv (.inr rfl) rfl (ev rfl) (by dsimp only [Fr.put,List.set_cons_succ,List.set_cons_zero] <;> rfl) ?_
  refine EvO.hstoreA hH rfl (ev rfl) (ev rfl) (by first | rfl | exact (SlD.cells (by assumption)).1 | exact hH.ocells (by first | exact at0 | exact at1 | exact at2 | exact at3 | exact at4 | exact at5 | exact at6 | exact at7) | exact hH.dcells (by first | exact at0 | exact at1 | exact at2 | exact at3 | exact at4 | exact at5 | exact at6 | exact at7) | assumption) (by exact rfl) (by first | exact at0 | exact at1 | exact at2 | exact at3 | exact at4 | exact at5 | exact at6 | exact at7) (by exact rfl) (by first | exact .inl hF | exact .inr rfl | exact .inr (by assumption)) (fun st hH => ?_)
  try dsimp only [List.set_cons_zero,List.set_cons_succ,List.cons_append,List.nil_append,setMany,List.map_cons,List.map_nil,D.cells,Nat.reduceAdd,List.nil_append,flC] at hH
  refine EvO.nil ?_
  try subst hK
  try change EvC _ _ _ _ _ _
  refine EvC.ret ⟨fun i h => (by cases h),_,_,Res2 hH rfl rfl at0 rfl,leave_ro (by simp) hSb hH rfl,?_⟩
  exact ⟨_,_,_,rfl,rfl, .inl rfl⟩
theorem delT_ev {N : Nat} {S s0 : St} {H : List Ent} {k : Nat} {key : Int} {x : D} {l : List Fl} (hF : S.flr <= N) (hH : Has N S s0 (.box k (.mem 0 false [x]) :: .lst x 3 (l.map flC) :: H)) (hl : l.length < 999999) (hth : thereT l key = true) :
  ∃ d st',Ev pv 48 [.ptr k 0 0, .int .i64 key] s0 d st' /\ ∃ x',Has N S st' (.box k (.mem 0 false [x']) :: .lst x' 3 ((l.eraseIdx (findT l key)).map flC) :: H) := by
 have hf := findF_ev (key := key) (off := 0) (St.mem_of (hH.at at0)) rfl (tab_of hH at1 (by omega))
 obtain ⟨r,hr0,hrk⟩ := there_at hth
 have hil : findT l key < l.length := (List.getElem?_eq_some_iff.1 hr0).1
 obtain ⟨kl,vl,ol,hxw⟩ := own_win hH at1 (by intro h; rw [List.map_eq_nil_iff] at h; subst h; simp at hil)
 rw [List.length_map] at hxw
 subst hxw
 rw [hth] at hf
 refine Ev.mkE rfl fi48 rfl rfl rfl ?_
 dsimp only [List.cons_append,List.nil_append,List.length,Nat.reduceSub,Nat.reduceAdd,List.replicate_succ,List.replicate_zero]
 change EvC _ _ _ _ s0 _
 try change EvC _ _ _ _ _ _
 repeat refine EvC.seq ?_
 try generalize hK : SeqQ _ _ _ _ = K
 refine EvC.reg ?_
 refine EvO.mv (.inr rfl) rfl (ev rfl) (by dsimp only [Fr.put,List.set_cons_succ,List.set_cons_zero] <;> rfl) ?_
 refine EvO.nil ?_
 try subst hK
 try change EvC _ _ _ _ _ _
 try change EvC _ _ _ _ _ _
 repeat refine EvC.seq ?_
 try generalize hK : SeqQ _ _ _ _ = K
 refine EvC.reg ?_
 refine EvO.mv (.inl rfl) rfl (ev rfl) (put_T rfl _) ?_
 refine EvO.mv (.inl rfl) rfl (ev rfl) (put_T rfl _) ?_
 refine EvO.hcall rfl rfl hf (put_T rfl _) ?_
 refine EvO.mv (.inl rfl) rfl (ev rfl) (put_T rfl _) ?_
 refine EvO.go rfl rfl rfl (put_T rfl _) ?_
 refine EvO.go rfl rfl rfl (put_T rfl _) ?_
 refine EvO.mv (.inr rfl) rfl (ev rfl) (by dsimp only [Fr.put,List.set_cons_succ,List.set_cons_zero] <;> rfl) ?_
 refine EvO.mv (.inr rfl) rfl (ev rfl) (by dsimp only [Fr.put,List.set_cons_succ,List.set_cons_zero] <;> rfl) ?_
 refine EvO.nil ?_
 try subst hK
 try change EvC _ _ _ _ _ _
 try change EvC _ _ _ _ _ _
 repeat refine EvC.seq ?_
 try generalize hK : SeqQ _ _ _ _ = K
 refine EvC.reg ?_
 refine EvO.mv (.inl rfl) rfl (ev rfl) (put_T rfl _) ?_
 refine EvO.nil ?_
 try subst hK
 try change EvC _ _ _ _ _ _
 try change EvC _ _ _ _ _ _
 repeat refine EvC.seq ?_
 refine EvC.cond (v := true) (by first | rfl | assumption) (fun _ => ?_) (fun h => by cases h)
 try change EvC _ _ _ _ _ _
 obtain ⟨_,st1,hev,rfl,hH'⟩ := del_ev hF hH at1 hil rfl (by omega)
 try change EvC _ _ _ _ _ _
 repeat refine EvC.seq ?_
 try generalize hK : SeqQ _ _ _ _ = K
 refine EvC.reg ?_
 refine EvO.mv (.inl rfl) rfl (ev rfl) (put_T rfl _) ?_
 refine EvO.mv (.inl rfl) rfl (ev rfl) (put_T rfl _) ?_
 refine EvO.go rfl rfl rfl (put_T rfl _) ?_
 refine EvO.pfield (fo := 0) (m := 0) (o := 0) rfl (ev rfl) rfl rfl rfl (put_T rfl _) ?_
 first | refine EvO.hload hH rfl (ev rfl) (by first | exact at0 | exact at1 | exact at2 | exact at3 | exact at4 | exact at5 | exact at6 | exact at7) rfl (put_T rfl _) ?_ | refine EvO.rload rfl (ev rfl) (by assumption) rfl (put_T rfl _) ?_ | refine EvO.oload hH rfl (ev rfl) (by assumption) (by first | exact at0 | exact at1 | exact at2 | exact at3 | exact at4 | exact at5 | exact at6 | exact at7) (by assumption) rfl (put_T rfl _) ?_
 refine EvO.mv (.inl rfl) rfl (ev rfl) (put_T rfl _) ?_
 refine EvO.mv (.inl rfl) rfl (ev rfl) (put_T rfl _) ?_
 refine EvO.addZ (z := (((findT l key : Nat) : Int) + 1)) rfl (ev rfl) (ev rfl) (by (try simp only [List.length_reverse,List.length_cons,List.length_nil,List.length_append,List.length_map,List.length_set]); first | (rw [wrap_i64 (by omega) (by omega)] <;> omega) | (rw [wrap_i32 (by omega) (by omega)] <;> omega)) (put_T rfl _) ?_
 refine EvO.hcall rfl rfl hev (put_T rfl _) ?_
 have hH := hH'
 refine EvO.go rfl rfl rfl (put_T rfl _) ?_
 refine EvO.pfield (fo := 0) (m := 0) (o := 0) rfl (ev rfl) rfl rfl rfl (put_T rfl _) ?_
 refine EvO.hstore hH rfl (ev rfl) (ev rfl) (by first | rfl | exact (SlD.cells (by assumption)).1 | exact hH.ocells (by first | exact at0 | exact at1 | exact at2 | exact at3 | exact at4 | exact at5 | exact at6 | exact at7) | exact hH.dcells (by first | exact at0 | exact at1 | exact at2 | exact at3 | exact at4 | exact at5 | exact at6 | exact at7) | assumption) (by exact rfl) (by first | exact at0 | exact at1 | exact at2 | exact at3 | exact at4 | exact at5 | exact at6 | exact at7) (by exact Nat.le_of_ble_eq_true rfl) (by first | exact .inl hF | exact .inr rfl | exact .inr (by assumption)) (fun st hH => ?_)
 try dsimp only [List.set_cons_zero,List.set_cons_succ,List.cons_append,List.nil_append,setMany,List.map_cons,List.map_nil,D.cells,Nat.reduceAdd,List.nil_append,flC] at hH
 refine EvO.nil ?_
 try subst hK
 try change EvC _ _ _ _ _ _
 try change EvC _ _ _ _ _ _
 repeat refine EvC.seq ?_
 try generalize hK : SeqQ _ _ _ _ = K
 refine EvC.reg ?_
 refine EvO.mv (.inl rfl) rfl (ev rfl) (put_T rfl _) ?_
 refine EvO.mv (.inr rfl) rfl (ev rfl) (by dsimp only [Fr.put,List.set_cons_succ,List.set_cons_zero] <;> rfl) ?_
 refine EvO.nil ?_
 try subst hK
 try change EvC _ _ _ _ _ _
 refine EvC.ret ⟨fun i h => (by cases h),_,_,_,rfl,rfl,?_⟩
 exact ⟨_,hH⟩
def ixF_Tn (fr : Go.V.Fr) (k : Nat) : Go.V.D := Go.V.nth .junk fr.loc k
theorem yp_new {N : Nat} {S st : St} {H : List Ent} {ky kf : Nat} {a x' : D} {L : List Fy} {key : Int} {nm : List UInt8} (hL : YOk L) (hl : L.length < 12) (ht : thereT (fr1 L) key = false) (h : Has N S st (.box ky (.mem 0 false [.ptr kf 0 0,a]) :: .box kf (.mem 0 false [x']) :: .lst x' 3 ((setTab (fr1 L) key nm .nul).map flC) :: (L.map bE ++ H))) : YP N S H ky kf a st := by
 refine ⟨x',insT L (findT (fr1 L) key) (⟨key,nm, .nul⟩, []),hL.ins hl ht,?_⟩
 have hs : setTab (fr1 L) key nm .nul = fr1 (insT L (findT (fr1 L) key) (⟨key,nm, .nul⟩, [])) := by
  unfold setTab; rw [if_neg (by rw [ht]; simp),fr1_ins]
 rw [hs] at h
 have h1 : Has N S st ([bE (⟨key,nm, .nul⟩, [])] ++ ([.box ky (.mem 0 false [.ptr kf 0 0,a]), .box kf (.mem 0 false [x']), .lst x' 3 ((fr1 (insT L (findT (fr1 L) key) (⟨key,nm, .nul⟩, []))).map flC)] ++ (L.map bE ++ H))) := h.nulE 1
 exact Has.perm (A := [_,_,_]) (put_new H) (Has.rot [_] [_,_,_] h1)
theorem yp_set {N : Nat} {S st : St} {H : List Ent} {ky kf i : Nat} {a x' b : D} {L : List Fy} {p : Fy} {nm : List UInt8} {es : List (List D)} (hL : YOk L) (hi : L[i]? = some p) (hes : es.length <= 65536) (h : Has N S st (.box ky (.mem 0 false [.ptr kf 0 0,a]) :: .box kf (.mem 0 false [x']) :: .lst x' 3 ((setTab (fr1 L) p.1.k nm b).map flC) :: .lst b 1 es :: ((L.eraseIdx i).map bE ++ H))) : YP N S H ky kf a st := by
 refine ⟨x',L.set i (⟨p.1.k,nm,b⟩,es),hL.set hi rfl hes,?_⟩
 rw [set_at hL hi nm b es] at h
 exact Has.perm (A := [_,_,_]) (put_in (p' := (⟨p.1.k,nm,b⟩,es)) hi H) h
theorem yp_era {N : Nat} {S st : St} {H : List Ent} {ky kf i : Nat} {a x' : D} {L : List Fy} {p : Fy} (hi : L[i]? = some p) (h : Has N S st (.box ky (.mem 0 false [.ptr kf 0 0,a]) :: .box kf (.mem 0 false [x']) :: .lst x' 3 (((fr1 L).eraseIdx i).map flC) :: (L.map bE ++ H))) : Has N S st (.box ky (.mem 0 false [.ptr kf 0 0,a]) :: .box kf (.mem 0 false [x']) :: .lst x' 3 ((fr1 (L.eraseIdx i)).map flC) :: ((L.eraseIdx i).map bE ++ H)) := by
 rw [<- fr1_era] at h
 exact (Has.perm (A := [_,_,_]) (take_out hi H) h).erase 3
theorem yp_out {N : Nat} {S st : St} {A H : List Ent} {L : List Fy} {i : Nat} {r : Fl} {es : List (List D)} (hi : L[i]? = some (r,es)) (h : Has N S st (A ++ (L.map bE ++ H))) : Has N S st (A ++ (.lst r.b 1 es :: ((L.eraseIdx i).map bE ++ H))) := Has.perm (take_out hi H) h
theorem create_ev {N : Nat} {S s0 : St} {H : List Ent} {ky kf : Nat} {a : D} {nm : List UInt8} (hF : S.flr <= N) (hY : YP N S H ky kf a s0) (hl : nm.length <= 1048576) : ∃ d st',Ev pv 22 [.ptr ky 0 0, .str nm] s0 d st' /\ (∃ e,d = .int .i64 e) /\ YP N S H ky kf a st' := by
 obtain ⟨x,L,hL,hH⟩ := hY
 have hsm := hL.small
 have hll := fr1_len L
 refine Ev.mkE rfl fi22 rfl rfl rfl ?_
 dsimp only [List.cons_append,List.nil_append,List.length,Nat.reduceSub,Nat.reduceAdd,List.replicate_succ,List.replicate_zero]
 change EvC _ _ _ _ s0 _
 try change EvC _ _ _ _ _ _
 repeat refine EvC.seq ?_
 try generalize hK : SeqQ _ _ _ _ = K
 refine EvC.reg ?_
 refine EvO.mv (.inr rfl) rfl (ev rfl) (by dsimp only [Fr.put,List.set_cons_succ,List.set_cons_zero] <;> rfl) ?_
 refine EvO.nil ?_
 try subst hK
 try change EvC _ _ _ _ _ _
 try change EvC _ _ _ _ _ _
 repeat refine EvC.seq ?_
 try generalize hK : SeqQ _ _ _ _ = K
 refine EvC.reg ?_
 refine EvO.mv (.inl rfl) rfl (ev rfl) (put_T rfl _) ?_
 obtain ⟨_,hev,bn,rfl⟩ := named_ev (s0 := s0) hl
 refine EvO.hcall rfl rfl hev (put_T rfl _) ?_
 refine EvO.go rfl rfl rfl (put_T rfl _) ?_
 refine EvO.nil ?_
 try subst hK
 try change EvC _ _ _ _ _ _
 cases bn with
 | false =>
  try change EvC _ _ _ _ _ _
  repeat refine EvC.seq ?_
  refine EvC.cond (v := true) (by first | assumption | (dsimp only [Fr.ev,Fr.get,nth,Go.V.look]; rfl)) (fun _ => ?_) (fun h => by cases h)
  try change EvC _ _ _ _ _ _
  try change EvC _ _ _ _ _ _
  repeat refine EvC.seq ?_
  try generalize hK : SeqQ _ _ _ _ = K
  refine EvC.reg ?_
  refine EvO.mv (.inr rfl) rfl (ev rfl) (by dsimp only [Fr.put,List.set_cons_succ,List.set_cons_zero] <;> rfl) ?_
  refine EvO.nil ?_
  try subst hK
  try change EvC _ _ _ _ _ _
  refine EvC.ret ⟨fun i h => (by cases h),_,_,_,rfl,rfl,?_⟩
  exact ⟨⟨_,rfl⟩,x,L,hL,hH⟩
 | true =>
  try change EvC _ _ _ _ _ _
  repeat refine EvC.seq ?_
  refine EvC.cond (v := false) (by first | assumption | (dsimp only [Fr.ev,Fr.get,nth,Go.V.look]; rfl)) (fun h => by cases h) (fun _ => ?_)
  try change EvC _ _ _ _ _ _
  refine EvC.skip ?_
  try change EvC _ _ _ _ _ _
  try change EvC _ _ _ _ _ _
  repeat refine EvC.seq ?_
  try generalize hK : SeqQ _ _ _ _ = K
  refine EvC.reg ?_
  refine EvO.mv (.inl rfl) rfl (ev rfl) (put_T rfl _) ?_
  refine EvO.mv (.inl rfl) rfl (ev rfl) (put_T rfl _) ?_
  obtain ⟨_,hev,ino,f,b,rfl,hcb,hfd⟩ := yfind_ev (nm := nm) (hH.at at0) (hH.at at1) (tab_of hH at2 (by omega)) (oldB_of (A := [_,_,_]) hH)
  refine EvO.hcall rfl rfl hev (put_T rfl _) ?_
  refine EvO.mv (.inl rfl) rfl (ev rfl) (put_T rfl _) ?_
  refine EvO.go rfl rfl rfl (put_T rfl _) ?_
  refine EvO.go rfl rfl rfl (put_T rfl _) ?_
  refine EvO.halloc hH rfl rfl (fun _ => by dsimp only [Fr.put,List.set_cons_succ,List.set_cons_zero] <;> rfl) (fun k6 st hk6 hH => ?_)
  try dsimp only [List.set_cons_zero,List.set_cons_succ,List.cons_append,List.nil_append,setMany,List.map_cons,List.map_nil,D.cells,Nat.reduceAdd,List.nil_append,flC] at hH
  refine EvO.mv (.inr rfl) rfl (ev rfl) (by dsimp only [Fr.put,List.set_cons_succ,List.set_cons_zero] <;> rfl) ?_
  refine EvO.hstoreA hH rfl (ev rfl) (ev rfl) (by first | rfl | exact (SlD.cells (by assumption)).1 | exact hH.ocells (by first | exact at0 | exact at1 | exact at2 | exact at3 | exact at4 | exact at5 | exact at6 | exact at7) | exact hH.dcells (by first | exact at0 | exact at1 | exact at2 | exact at3 | exact at4 | exact at5 | exact at6 | exact at7) | assumption) (by exact rfl) (by first | exact at0 | exact at1 | exact at2 | exact at3 | exact at4 | exact at5 | exact at6 | exact at7) (by exact rfl) (by first | exact .inl hF | exact .inr rfl | exact .inr (by assumption)) (fun st hH => ?_)
  try dsimp only [List.set_cons_zero,List.set_cons_succ,List.cons_append,List.nil_append,setMany,List.map_cons,List.map_nil,D.cells,Nat.reduceAdd,List.nil_append,flC] at hH
  refine EvO.nil ?_
  try subst hK
  try change EvC _ _ _ _ _ _
  try change EvC _ _ _ _ _ _
  repeat refine EvC.seq ?_
  try generalize hK : SeqQ _ _ _ _ = K
  refine EvC.reg ?_
  refine EvO.mv (.inl rfl) rfl (ev rfl) (put_T rfl _) ?_
  refine EvO.go rfl rfl rfl (put_T rfl _) ?_
  refine EvO.nil ?_
  try subst hK
  try change EvC _ _ _ _ _ _
  try change EvC _ _ _ _ _ _
  repeat refine EvC.seq ?_
  refine EvC.cond (by first | rfl | assumption) (fun h1 => ?_) (fun h1 => ?_) <;> try simp only [decide_eq_true_eq,decide_eq_false_iff_not,beq_iff_eq,beq_eq_false_iff_ne,bne_iff_ne,bne_eq_false_iff_eq,ne_eq,Bool.not_eq_true',Bool.not_eq_false',Bool.not_eq_true,Bool.not_eq_false] at h1
  ·try change EvC _ _ _ _ _ _
   repeat refine EvC.seq ?_
   try generalize hK : SeqQ _ _ _ _ = K
   refine EvC.reg ?_
   refine EvO.mv (.inr rfl) rfl (ev rfl) (by dsimp only [Fr.put,List.set_cons_succ,List.set_cons_zero] <;> rfl) ?_
   refine EvO.nil ?_
   try subst hK
   try change EvC _ _ _ _ _ _
   refine EvC.ret ⟨fun i h => (by cases h),_,_,_,rfl,rfl,?_⟩
   exact ⟨⟨_,rfl⟩,x,L,hL,hH.drop 1⟩
  ·refine EvC.skip ?_
   try change EvC _ _ _ _ _ _
   try change EvC _ _ _ _ _ _
   repeat refine EvC.seq ?_
   try generalize hK : SeqQ _ _ _ _ = K
   refine EvC.reg ?_
   refine EvO.mv (.inl rfl) rfl (ev rfl) (put_T rfl _) ?_
   refine EvO.go rfl rfl rfl (put_T rfl _) ?_
   refine EvO.pfield (fo := 0) (m := 0) (o := 0) rfl (ev rfl) rfl rfl rfl (put_T rfl _) ?_
   first | refine EvO.hload hH rfl (ev rfl) (by first | exact at0 | exact at1 | exact at2 | exact at3 | exact at4 | exact at5 | exact at6 | exact at7) rfl (put_T rfl _) ?_ | refine EvO.rload rfl (ev rfl) (by assumption) rfl (put_T rfl _) ?_ | refine EvO.oload hH rfl (ev rfl) (by assumption) (by first | exact at0 | exact at1 | exact at2 | exact at3 | exact at4 | exact at5 | exact at6 | exact at7) (by assumption) rfl (put_T rfl _) ?_
   refine EvO.hcall rfl rfl (lenF_ev (hH.at at2) (tab_of hH at3 (by omega))) (put_T rfl _) ?_
   refine EvO.go rfl rfl rfl (put_T rfl _) ?_
   refine EvO.nil ?_
   try subst hK
   try change EvC _ _ _ _ _ _
   try change EvC _ _ _ _ _ _
   repeat refine EvC.seq ?_
   refine EvC.cond (by first | rfl | assumption) (fun h2 => ?_) (fun h2 => ?_) <;> try simp only [decide_eq_true_eq,decide_eq_false_iff_not,beq_iff_eq,beq_eq_false_iff_ne,bne_iff_ne,bne_eq_false_iff_eq,ne_eq,Bool.not_eq_true',Bool.not_eq_false',Bool.not_eq_true,Bool.not_eq_false] at h2
   ·try change EvC _ _ _ _ _ _
    repeat refine EvC.seq ?_
    try generalize hK : SeqQ _ _ _ _ = K
    refine EvC.reg ?_
    refine EvO.mv (.inr rfl) rfl (ev rfl) (by dsimp only [Fr.put,List.set_cons_succ,List.set_cons_zero] <;> rfl) ?_
    refine EvO.nil ?_
    try subst hK
    try change EvC _ _ _ _ _ _
    refine EvC.ret ⟨fun i h => (by cases h),_,_,_,rfl,rfl,?_⟩
    exact ⟨⟨_,rfl⟩,x,L,hL,hH.drop 1⟩
   ·refine EvC.skip ?_
    try change EvC _ _ _ _ _ _
    have hlt : L.length < 12 := by omega
    try change EvC _ _ _ _ _ _
    repeat refine EvC.seq ?_
    try generalize hK : SeqQ _ _ _ _ = K
    refine EvC.reg ?_
    refine EvO.mv (.inr rfl) rfl (ev rfl) (by dsimp only [Fr.put,List.set_cons_succ,List.set_cons_zero] <;> rfl) ?_
    refine EvO.nil ?_
    try subst hK
    try change EvC _ _ _ _ _ _
    try change EvC _ _ _ _ _ _
    repeat refine EvC.seq ?_
    refine EvC.block ?_
    refine EvC.loop (fun mm fr st => ∃ (j : Nat),fr.clean = ⟨10, [.ptr ky 0 0, .str nm,ixF_Tn fr 2,ixF_Tn fr 3, .int .i64 0, .int .i64 ino, .ptr k6 0 0, .int .i64 (j : Nat),ixF_Tn fr 8,ixF_Tn fr 9], []⟩ /\ Has N S st (.box k6 (.mem 0 false [.str f,b]) :: .box ky (.mem 0 false [.ptr kf 0 0,a]) :: .box kf (.mem 0 false [x]) :: .lst x 3 ((fr1 L).map flC) :: (L.map bE ++ H)) /\ (j + mm = 14) /\ (1 <= j) /\ (j - 1 <= belowN (fr1 L) (j : Nat))) (13) ?_ ?_
    ·exact ⟨1,rfl,hH,by omega,by omega,by omega⟩
    rintro mm fr st ⟨j,hfr,hH,hj,hj1,hjb⟩
    rw [hfr]
    clear hfr
    try generalize ixF_Tn fr = ee
    clear fr
    try change EvC _ _ _ _ _ _
    have hbl := below_le (fr1 L) (j : Nat)
    try change EvC _ _ _ _ _ _
    repeat refine EvC.seq ?_
    refine EvC.block ?_
    try change EvC _ _ _ _ _ _
    repeat refine EvC.seq ?_
    try generalize hK : SeqQ _ _ _ _ = K
    refine EvC.reg ?_
    refine EvO.mv (.inl rfl) rfl (ev rfl) (put_T rfl _) ?_
    refine EvO.go rfl rfl rfl (put_T rfl _) ?_
    refine EvO.pfield (fo := 0) (m := 0) (o := 0) rfl (ev rfl) rfl rfl rfl (put_T rfl _) ?_
    first | refine EvO.hload hH rfl (ev rfl) (by first | exact at0 | exact at1 | exact at2 | exact at3 | exact at4 | exact at5 | exact at6 | exact at7) rfl (put_T rfl _) ?_ | refine EvO.rload rfl (ev rfl) (by assumption) rfl (put_T rfl _) ?_ | refine EvO.oload hH rfl (ev rfl) (by assumption) (by first | exact at0 | exact at1 | exact at2 | exact at3 | exact at4 | exact at5 | exact at6 | exact at7) (by assumption) rfl (put_T rfl _) ?_
    refine EvO.mv (.inl rfl) rfl (ev rfl) (put_T rfl _) ?_
    obtain ⟨_,hev,f2,b2,rfl⟩ := getF_ev (key := (j : Nat)) (hH.at at2) (tab_of hH at3 (by omega)) (oldB_of (A := [_,_,_,_]) hH)
    refine EvO.hcall rfl rfl hev (put_T rfl _) ?_
    refine EvO.mv (.inl rfl) rfl (ev rfl) (put_T rfl _) ?_
    refine EvO.go rfl rfl rfl (put_T rfl _) ?_
    refine EvO.go rfl rfl rfl (put_T rfl _) ?_
    refine EvO.halloc hH rfl rfl (fun _ => by dsimp only [Fr.put,List.set_cons_succ,List.set_cons_zero] <;> rfl) (fun k8 st hk8 hH => ?_)
    try dsimp only [List.set_cons_zero,List.set_cons_succ,List.cons_append,List.nil_append,setMany,List.map_cons,List.map_nil,D.cells,Nat.reduceAdd,List.nil_append,flC] at hH
    refine EvO.hstoreA hH rfl (ev rfl) (ev rfl) (by first | rfl | exact (SlD.cells (by assumption)).1 | exact hH.ocells (by first | exact at0 | exact at1 | exact at2 | exact at3 | exact at4 | exact at5 | exact at6 | exact at7) | exact hH.dcells (by first | exact at0 | exact at1 | exact at2 | exact at3 | exact at4 | exact at5 | exact at6 | exact at7) | assumption) (by exact rfl) (by first | exact at0 | exact at1 | exact at2 | exact at3 | exact at4 | exact at5 | exact at6 | exact at7) (by exact rfl) (by first | exact .inl hF | exact .inr rfl | exact .inr (by assumption)) (fun st hH => ?_)
    try dsimp only [List.set_cons_zero,List.set_cons_succ,List.cons_append,List.nil_append,setMany,List.map_cons,List.map_nil,D.cells,Nat.reduceAdd,List.nil_append,flC] at hH
    refine EvO.mv (.inr rfl) rfl (ev rfl) (by dsimp only [Fr.put,List.set_cons_succ,List.set_cons_zero] <;> rfl) ?_
    refine EvO.nil ?_
    try subst hK
    try change EvC _ _ _ _ _ _
    try change EvC _ _ _ _ _ _
    repeat refine EvC.seq ?_
    try generalize hK : SeqQ _ _ _ _ = K
    refine EvC.reg ?_
    refine EvO.mv (.inl rfl) rfl (ev rfl) (put_T rfl _) ?_
    refine EvO.go rfl rfl rfl (put_T rfl _) ?_
    refine EvO.nil ?_
    try subst hK
    try change EvC _ _ _ _ _ _
    cases hth : thereT (fr1 L) (j : Nat) with
    | true =>
     try change EvC _ _ _ _ _ _
     repeat refine EvC.seq ?_
     refine EvC.cond (v := false) (by first | assumption | (dsimp only [Fr.ev,Fr.get,nth,Go.V.look]; rfl)) (fun h => by cases h) (fun _ => ?_)
     try change EvC _ _ _ _ _ _
     refine EvC.skip ?_
     try change EvC _ _ _ _ _ _
     obtain ⟨r,hr0,hrk⟩ := there_at hth
     have hbs := below_step (List.mem_of_getElem? hr0) hrk
     try change EvC _ _ _ _ _ _
     repeat refine EvC.seq ?_
     try generalize hK : SeqQ _ _ _ _ = K
     refine EvC.reg ?_
     refine EvO.mv (.inl rfl) rfl (ev rfl) (put_T rfl _) ?_
     refine EvO.addZ (z := ((j + 1 : Nat) : Int)) rfl (ev rfl) (ev rfl) (by (try simp only [List.length_reverse,List.length_cons,List.length_nil,List.length_append,List.length_map,List.length_set]); first | (rw [wrap_i64 (by omega) (by omega)] <;> omega) | (rw [wrap_i32 (by omega) (by omega)] <;> omega)) (put_T rfl _) ?_
     refine EvO.mv (.inr rfl) rfl (ev rfl) (by dsimp only [Fr.put,List.set_cons_succ,List.set_cons_zero] <;> rfl) ?_
     refine EvO.nil ?_
     try subst hK
     try change EvC _ _ _ _ _ _
     exact ⟨mm - 1,by omega,⟨j + 1,rfl,hH.drop 1,by omega,by omega,by push_cast; omega⟩⟩
    | false =>
     try change EvC _ _ _ _ _ _
     repeat refine EvC.seq ?_
     refine EvC.cond (v := true) (by first | assumption | (dsimp only [Fr.ev,Fr.get,nth,Go.V.look]; rfl)) (fun _ => ?_) (fun h => by cases h)
     try change EvC _ _ _ _ _ _
     try change EvC _ _ _ _ _ _
     refine EvC.exit ?_
     try change EvC _ _ _ _ _ _
     have hH := hH.drop 1
     have hH : Has N S st (.box kf (.mem 0 false [x]) :: .lst x 3 ((fr1 L).map flC) :: .box k6 (.mem 0 false [.str f,b]) :: .box ky (.mem 0 false [.ptr kf 0 0,a]) :: (L.map bE ++ H)) := Has.rot [_,_] [_,_] hH
     try change EvC _ _ _ _ _ _
     repeat refine EvC.seq ?_
     try generalize hK : SeqQ _ _ _ _ = K
     refine EvC.reg ?_
     refine EvO.mv (.inl rfl) rfl (ev rfl) (put_T rfl _) ?_
     refine EvO.go rfl rfl rfl (put_T rfl _) ?_
     refine EvO.pfield (fo := 0) (m := 0) (o := 0) rfl (ev rfl) rfl rfl rfl (put_T rfl _) ?_
     first | refine EvO.hload hH rfl (ev rfl) (by first | exact at0 | exact at1 | exact at2 | exact at3 | exact at4 | exact at5 | exact at6 | exact at7) rfl (put_T rfl _) ?_ | refine EvO.rload rfl (ev rfl) (by assumption) rfl (put_T rfl _) ?_ | refine EvO.oload hH rfl (ev rfl) (by assumption) (by first | exact at0 | exact at1 | exact at2 | exact at3 | exact at4 | exact at5 | exact at6 | exact at7) (by assumption) rfl (put_T rfl _) ?_
     refine EvO.mv (.inl rfl) rfl (ev rfl) (put_T rfl _) ?_
     refine EvO.mv (.inl rfl) rfl (ev rfl) (put_T rfl _) ?_
     refine EvO.go rfl rfl rfl (put_T rfl _) ?_
     obtain ⟨_,st1,hev,x',rfl,hH⟩ := fset_ev (b := .nul) (key := (j : Nat)) (nm := nm) hF hH hsm
     refine EvO.hcall rfl rfl hev (put_T rfl _) ?_
     refine EvO.nil ?_
     try subst hK
     try change EvC _ _ _ _ _ _
     try change EvC _ _ _ _ _ _
     repeat refine EvC.seq ?_
     try generalize hK : SeqQ _ _ _ _ = K
     refine EvC.reg ?_
     refine EvO.mv (.inr rfl) rfl (ev rfl) (by dsimp only [Fr.put,List.set_cons_succ,List.set_cons_zero] <;> rfl) ?_
     refine EvO.nil ?_
     try subst hK
     try change EvC _ _ _ _ _ _
     refine EvC.ret ⟨fun i h => (by cases h),_,_,_,rfl,rfl,?_⟩
     exact ⟨⟨_,rfl⟩,yp_new hL hlt hth (Has.rot [_,_] [_] (hH.erase 2))⟩
theorem append_ev {N : Nat} {S s0 : St} {H : List Ent} {ky kf : Nat} {a y : D} {nm pb : List UInt8} (hF : S.flr <= N) (hY : YP N S H ky kf a s0) (hy : SlD y 1 (V.byteCells pb)) (hpl : pb.length <= 1048576) : ∃ d st',Ev pv 23 [.ptr ky 0 0, .str nm,y] s0 d st' /\ (∃ e,d = .int .i64 e) /\ YP N S H ky kf a st' := by
 obtain ⟨x,L,hL,hH⟩ := hY
 have hsm := hL.small
 have hll := fr1_len L
 have hya : Arg N S 1 y (V.byteCells pb) := hy.arg _ _
 have hbl : (V.byteCells pb).length = pb.length := by simp [V.byteCells]
 refine Ev.mkE rfl fi23 rfl rfl rfl ?_
 dsimp only [List.cons_append,List.nil_append,List.length,Nat.reduceSub,Nat.reduceAdd,List.replicate_succ,List.replicate_zero]
 change EvC _ _ _ _ s0 _
 try change EvC _ _ _ _ _ _
 repeat refine EvC.seq ?_
 try generalize hK : SeqQ _ _ _ _ = K
 refine EvC.reg ?_
 refine EvO.mv (.inr rfl) rfl (ev rfl) (by dsimp only [Fr.put,List.set_cons_succ,List.set_cons_zero] <;> rfl) ?_
 refine EvO.nil ?_
 try subst hK
 try change EvC _ _ _ _ _ _
 try change EvC _ _ _ _ _ _
 repeat refine EvC.seq ?_
 try generalize hK : SeqQ _ _ _ _ = K
 refine EvC.reg ?_
 refine EvO.mv (.inl rfl) rfl (ev rfl) (put_T rfl _) ?_
 refine EvO.mv (.inl rfl) rfl (ev rfl) (put_T rfl _) ?_
 obtain ⟨_,hev,ino,f,b,rfl,hcb,hfd⟩ := yfind_ev (nm := nm) (hH.at at0) (hH.at at1) (tab_of hH at2 (by omega)) (oldB_of (A := [_,_,_]) hH)
 refine EvO.hcall rfl rfl hev (put_T rfl _) ?_
 refine EvO.mv (.inl rfl) rfl (ev rfl) (put_T rfl _) ?_
 refine EvO.go rfl rfl rfl (put_T rfl _) ?_
 refine EvO.go rfl rfl rfl (put_T rfl _) ?_
 refine EvO.halloc hH rfl rfl (fun _ => by dsimp only [Fr.put,List.set_cons_succ,List.set_cons_zero] <;> rfl) (fun k8 st hk8 hH => ?_)
 try dsimp only [List.set_cons_zero,List.set_cons_succ,List.cons_append,List.nil_append,setMany,List.map_cons,List.map_nil,D.cells,Nat.reduceAdd,List.nil_append,flC] at hH
 refine EvO.mv (.inr rfl) rfl (ev rfl) (by dsimp only [Fr.put,List.set_cons_succ,List.set_cons_zero] <;> rfl) ?_
 refine EvO.hstoreA hH rfl (ev rfl) (ev rfl) (by first | rfl | exact (SlD.cells (by assumption)).1 | exact hH.ocells (by first | exact at0 | exact at1 | exact at2 | exact at3 | exact at4 | exact at5 | exact at6 | exact at7) | exact hH.dcells (by first | exact at0 | exact at1 | exact at2 | exact at3 | exact at4 | exact at5 | exact at6 | exact at7) | assumption) (by exact rfl) (by first | exact at0 | exact at1 | exact at2 | exact at3 | exact at4 | exact at5 | exact at6 | exact at7) (by exact rfl) (by first | exact .inl hF | exact .inr rfl | exact .inr (by assumption)) (fun st hH => ?_)
 try dsimp only [List.set_cons_zero,List.set_cons_succ,List.cons_append,List.nil_append,setMany,List.map_cons,List.map_nil,D.cells,Nat.reduceAdd,List.nil_append,flC] at hH
 refine EvO.nil ?_
 try subst hK
 try change EvC _ _ _ _ _ _
 try change EvC _ _ _ _ _ _
 repeat refine EvC.seq ?_
 try generalize hK : SeqQ _ _ _ _ = K
 refine EvC.reg ?_
 refine EvO.mv (.inl rfl) rfl (ev rfl) (put_T rfl _) ?_
 refine EvO.go rfl rfl rfl (put_T rfl _) ?_
 refine EvO.nil ?_
 try subst hK
 try change EvC _ _ _ _ _ _
 try change EvC _ _ _ _ _ _
 repeat refine EvC.seq ?_
 refine EvC.cond (by first | rfl | assumption) (fun h1 => ?_) (fun h1 => ?_) <;> try simp only [decide_eq_true_eq,decide_eq_false_iff_not,beq_iff_eq,beq_eq_false_iff_ne,bne_iff_ne,bne_eq_false_iff_eq,ne_eq,Bool.not_eq_true',Bool.not_eq_false',Bool.not_eq_true,Bool.not_eq_false] at h1
 ·try change EvC _ _ _ _ _ _
  repeat refine EvC.seq ?_
  try generalize hK : SeqQ _ _ _ _ = K
  refine EvC.reg ?_
  refine EvO.mv (.inr rfl) rfl (ev rfl) (by dsimp only [Fr.put,List.set_cons_succ,List.set_cons_zero] <;> rfl) ?_
  refine EvO.nil ?_
  try subst hK
  try change EvC _ _ _ _ _ _
  refine EvC.ret ⟨fun i h => (by cases h),_,_,_,rfl,rfl,?_⟩
  exact ⟨⟨_,rfl⟩,x,L,hL,hH.drop 1⟩
 ·refine EvC.skip ?_
  try change EvC _ _ _ _ _ _
  obtain ⟨i,hi0⟩ := hfd.resolve_left h1
  obtain ⟨es,hi⟩ := fr1_at hi0
  have hle : es.length <= 65536 := hL.few _ (List.mem_of_getElem? hi)
  have hH1 := hH
  have hH : Has N S st (.box k8 (.mem 0 false [.str f,b]) :: .box ky (.mem 0 false [.ptr kf 0 0,a]) :: .box kf (.mem 0 false [x]) :: .lst x 3 ((fr1 L).map flC) :: .lst b 1 es :: ((L.eraseIdx i).map bE ++ H)) := yp_out (A := [_,_,_,_]) hi hH
  try change EvC _ _ _ _ _ _
  repeat refine EvC.seq ?_
  try generalize hK : SeqQ _ _ _ _ = K
  refine EvC.reg ?_
  refine EvO.mv (.inl rfl) rfl (ev rfl) (put_T rfl _) ?_
  first | refine EvO.rlen rfl (ev rfl) (Arg.rows (by assumption) hH) rfl (put_T rfl _) ?_ | refine EvO.rlen rfl (ev rfl) (hH.rows (by first | exact at0 | exact at1 | exact at2 | exact at3 | exact at4 | exact at5 | exact at6 | exact at7)) rfl (put_T rfl _) ?_ | refine EvO.slen rfl rfl rfl (put_T rfl _) ?_ | refine EvO.go rfl rfl rfl (put_T rfl _) ?_
  try simp only [List.length_map,List.length_append,List.length_cons,List.length_nil,List.length_set,List.length_replicate,List.length_reverse]
  refine EvO.pfield (fo := 1) (m := 0) (o := 1) rfl (ev rfl) rfl rfl rfl (put_T rfl _) ?_
  first | refine EvO.hload hH rfl (ev rfl) (by first | exact at0 | exact at1 | exact at2 | exact at3 | exact at4 | exact at5 | exact at6 | exact at7) rfl (put_T rfl _) ?_ | refine EvO.rload rfl (ev rfl) (by assumption) rfl (put_T rfl _) ?_ | refine EvO.oload hH rfl (ev rfl) (by assumption) (by first | exact at0 | exact at1 | exact at2 | exact at3 | exact at4 | exact at5 | exact at6 | exact at7) (by assumption) rfl (put_T rfl _) ?_
  first | refine EvO.rlen rfl (ev rfl) (Arg.rows (by assumption) hH) rfl (put_T rfl _) ?_ | refine EvO.rlen rfl (ev rfl) (hH.rows (by first | exact at0 | exact at1 | exact at2 | exact at3 | exact at4 | exact at5 | exact at6 | exact at7)) rfl (put_T rfl _) ?_ | refine EvO.slen rfl rfl rfl (put_T rfl _) ?_ | refine EvO.go rfl rfl rfl (put_T rfl _) ?_
  try simp only [List.length_map,List.length_append,List.length_cons,List.length_nil,List.length_set,List.length_replicate,List.length_reverse]
  first | refine EvO.subN rfl (ev rfl) (ev rfl) (by omega) (by omega) (put_T rfl _) ?_ | refine EvO.subS64 rfl (ev rfl) (ev rfl) (by omega) (by omega) (put_T rfl _) ?_ | refine EvO.subS32 rfl (ev rfl) (ev rfl) (by omega) (by omega) (put_T rfl _) ?_ | refine EvO.go rfl rfl rfl (put_T rfl _) ?_
  refine EvO.go rfl rfl rfl (put_T rfl _) ?_
  refine EvO.nil ?_
  try subst hK
  try change EvC _ _ _ _ _ _
  try change EvC _ _ _ _ _ _
  repeat refine EvC.seq ?_
  refine EvC.cond (by first | rfl | assumption) (fun h2 => ?_) (fun h2 => ?_) <;> try simp only [decide_eq_true_eq,decide_eq_false_iff_not,beq_iff_eq,beq_eq_false_iff_ne,bne_iff_ne,bne_eq_false_iff_eq,ne_eq,Bool.not_eq_true',Bool.not_eq_false',Bool.not_eq_true,Bool.not_eq_false] at h2
  ·try change EvC _ _ _ _ _ _
   repeat refine EvC.seq ?_
   try generalize hK : SeqQ _ _ _ _ = K
   refine EvC.reg ?_
   refine EvO.mv (.inr rfl) rfl (ev rfl) (by dsimp only [Fr.put,List.set_cons_succ,List.set_cons_zero] <;> rfl) ?_
   refine EvO.nil ?_
   try subst hK
   try change EvC _ _ _ _ _ _
   refine EvC.ret ⟨fun i h => (by cases h),_,_,_,rfl,rfl,?_⟩
   exact ⟨⟨_,rfl⟩,x,L,hL,hH1.drop 1⟩
  ·refine EvC.skip ?_
   try change EvC _ _ _ _ _ _
   try change EvC _ _ _ _ _ _
   repeat refine EvC.seq ?_
   try generalize hK : SeqQ _ _ _ _ = K
   refine EvC.reg ?_
   refine EvO.pfield (fo := 1) (m := 0) (o := 1) rfl (ev rfl) rfl rfl rfl (put_T rfl _) ?_
   first | refine EvO.hload hH rfl (ev rfl) (by first | exact at0 | exact at1 | exact at2 | exact at3 | exact at4 | exact at5 | exact at6 | exact at7) rfl (put_T rfl _) ?_ | refine EvO.rload rfl (ev rfl) (by assumption) rfl (put_T rfl _) ?_ | refine EvO.oload hH rfl (ev rfl) (by assumption) (by first | exact at0 | exact at1 | exact at2 | exact at3 | exact at4 | exact at5 | exact at6 | exact at7) (by assumption) rfl (put_T rfl _) ?_
   refine EvO.mv (.inl rfl) rfl (ev rfl) (put_T rfl _) ?_
   refine EvO.happend (s := 1) hH rfl (ev rfl) (ev rfl) (by first | exact at0 | exact at1 | exact at2 | exact at3 | exact at4 | exact at5 | exact at6 | exact at7) (by first | exact hH.rows (by first | exact at0 | exact at1 | exact at2 | exact at3 | exact at4 | exact at5 | exact at6 | exact at7) | exact Arg.rows (by assumption) hH) rfl rfl rfl rfl rfl rfl rfl ⟨(Nat.le_of_ble_eq_true rfl),(Nat.le_of_ble_eq_true rfl)⟩ (fun _ => (put_T rfl _)) (by first | omega | (simp only [List.length_append,List.length_cons,List.length_nil,List.length_map,List.length_replicate,List.length_set,List.length_reverse] <;> omega)) (by first | exact .inl hF | exact .inr rfl | exact .inr (by assumption)) (fun x27 st hH => ?_)
   try dsimp only [List.set_cons_zero,List.set_cons_succ,List.cons_append,List.nil_append,setMany,List.map_cons,List.map_nil,D.cells,Nat.reduceAdd,List.nil_append,flC] at hH
   refine EvO.pfield (fo := 1) (m := 0) (o := 1) rfl (ev rfl) rfl rfl rfl (put_T rfl _) ?_
   refine EvO.hstore hH rfl (ev rfl) (ev rfl) (by first | rfl | exact (SlD.cells (by assumption)).1 | exact hH.ocells (by first | exact at0 | exact at1 | exact at2 | exact at3 | exact at4 | exact at5 | exact at6 | exact at7) | exact hH.dcells (by first | exact at0 | exact at1 | exact at2 | exact at3 | exact at4 | exact at5 | exact at6 | exact at7) | assumption) (by exact rfl) (by first | exact at0 | exact at1 | exact at2 | exact at3 | exact at4 | exact at5 | exact at6 | exact at7) (by exact Nat.le_of_ble_eq_true rfl) (by first | exact .inl hF | exact .inr rfl | exact .inr (by assumption)) (fun st hH => ?_)
   try dsimp only [List.set_cons_zero,List.set_cons_succ,List.cons_append,List.nil_append,setMany,List.map_cons,List.map_nil,D.cells,Nat.reduceAdd,List.nil_append,flC] at hH
   refine EvO.nil ?_
   try subst hK
   try change EvC _ _ _ _ _ _
   have hH : Has N S st (.box kf (.mem 0 false [x]) :: .lst x 3 ((fr1 L).map flC) :: .box k8 (.mem 0 false [.str f,x27]) :: .box ky (.mem 0 false [.ptr kf 0 0,a]) :: .lst x27 1 (es ++ V.byteCells pb) :: ((L.eraseIdx i).map bE ++ H)) := Has.rot [_,_] [_,_] hH
   try change EvC _ _ _ _ _ _
   repeat refine EvC.seq ?_
   try generalize hK : SeqQ _ _ _ _ = K
   refine EvC.reg ?_
   refine EvO.mv (.inl rfl) rfl (ev rfl) (put_T rfl _) ?_
   refine EvO.go rfl rfl rfl (put_T rfl _) ?_
   refine EvO.pfield (fo := 0) (m := 0) (o := 0) rfl (ev rfl) rfl rfl rfl (put_T rfl _) ?_
   first | refine EvO.hload hH rfl (ev rfl) (by first | exact at0 | exact at1 | exact at2 | exact at3 | exact at4 | exact at5 | exact at6 | exact at7) rfl (put_T rfl _) ?_ | refine EvO.rload rfl (ev rfl) (by assumption) rfl (put_T rfl _) ?_ | refine EvO.oload hH rfl (ev rfl) (by assumption) (by first | exact at0 | exact at1 | exact at2 | exact at3 | exact at4 | exact at5 | exact at6 | exact at7) (by assumption) rfl (put_T rfl _) ?_
   refine EvO.mv (.inl rfl) rfl (ev rfl) (put_T rfl _) ?_
   first | refine EvO.hloadS (m := 2) hH rfl (ev rfl) (by first | exact at0 | exact at1 | exact at2 | exact at3 | exact at4 | exact at5 | exact at6 | exact at7) (by dsimp only [List.drop_succ_cons,List.drop_zero,List.take_succ_cons,List.take_zero,flC] <;> rfl) rfl rfl (put_T rfl _) ?_ | refine EvO.rload rfl (ev rfl) (by assumption) rfl (put_T rfl _) ?_ | refine EvO.oload hH rfl (ev rfl) (by assumption) (by first | exact at0 | exact at1 | exact at2 | exact at3 | exact at4 | exact at5 | exact at6 | exact at7) (by assumption) rfl (put_T rfl _) ?_
   obtain ⟨_,st1,hev,x',rfl,hH⟩ := fset_ev (b := x27) (key := ino) (nm := f) hF hH hsm
   refine EvO.hcall rfl rfl hev (put_T rfl _) ?_
   refine EvO.nil ?_
   try subst hK
   try change EvC _ _ _ _ _ _
   try change EvC _ _ _ _ _ _
   repeat refine EvC.seq ?_
   try generalize hK : SeqQ _ _ _ _ = K
   refine EvC.reg ?_
   refine EvO.mv (.inr rfl) rfl (ev rfl) (by dsimp only [Fr.put,List.set_cons_succ,List.set_cons_zero] <;> rfl) ?_
   refine EvO.nil ?_
   try subst hK
   try change EvC _ _ _ _ _ _
   refine EvC.ret ⟨fun i h => (by cases h),_,_,_,rfl,rfl,?_⟩
   exact ⟨⟨_,rfl⟩,yp_set hL hi (by rw [List.length_append]; omega) (Has.rot [_,_] [_] (hH.erase 2))⟩
theorem ycut_ev {N : Nat} {S s0 : St} {H : List Ent} {ky kf : Nat} {a : D} {nm : List UInt8} {n : Int} (hF : S.flr <= N) (hY : YP N S H ky kf a s0) : ∃ d st',Ev pv 25 [.ptr ky 0 0, .str nm, .int .i64 n] s0 d st' /\ (∃ e,d = .int .i64 e) /\ YP N S H ky kf a st' := by
 obtain ⟨x,L,hL,hH⟩ := hY
 have hsm := hL.small
 have hll := fr1_len L
 refine Ev.mkE rfl fi25 rfl rfl rfl ?_
 dsimp only [List.cons_append,List.nil_append,List.length,Nat.reduceSub,Nat.reduceAdd,List.replicate_succ,List.replicate_zero]
 change EvC _ _ _ _ s0 _
 try change EvC _ _ _ _ _ _
 repeat refine EvC.seq ?_
 try generalize hK : SeqQ _ _ _ _ = K
 refine EvC.reg ?_
 refine EvO.mv (.inr rfl) rfl (ev rfl) (by dsimp only [Fr.put,List.set_cons_succ,List.set_cons_zero] <;> rfl) ?_
 refine EvO.nil ?_
 try subst hK
 try change EvC _ _ _ _ _ _
 try change EvC _ _ _ _ _ _
 repeat refine EvC.seq ?_
 try generalize hK : SeqQ _ _ _ _ = K
 refine EvC.reg ?_
 refine EvO.mv (.inl rfl) rfl (ev rfl) (put_T rfl _) ?_
 refine EvO.mv (.inl rfl) rfl (ev rfl) (put_T rfl _) ?_
 obtain ⟨_,hev,ino,f,b,rfl,hcb,hfd⟩ := yfind_ev (nm := nm) (hH.at at0) (hH.at at1) (tab_of hH at2 (by omega)) (oldB_of (A := [_,_,_]) hH)
 refine EvO.hcall rfl rfl hev (put_T rfl _) ?_
 refine EvO.mv (.inl rfl) rfl (ev rfl) (put_T rfl _) ?_
 refine EvO.go rfl rfl rfl (put_T rfl _) ?_
 refine EvO.go rfl rfl rfl (put_T rfl _) ?_
 refine EvO.halloc hH rfl rfl (fun _ => by dsimp only [Fr.put,List.set_cons_succ,List.set_cons_zero] <;> rfl) (fun k8 st hk8 hH => ?_)
 try dsimp only [List.set_cons_zero,List.set_cons_succ,List.cons_append,List.nil_append,setMany,List.map_cons,List.map_nil,D.cells,Nat.reduceAdd,List.nil_append,flC] at hH
 refine EvO.mv (.inr rfl) rfl (ev rfl) (by dsimp only [Fr.put,List.set_cons_succ,List.set_cons_zero] <;> rfl) ?_
 refine EvO.hstoreA hH rfl (ev rfl) (ev rfl) (by first | rfl | exact (SlD.cells (by assumption)).1 | exact hH.ocells (by first | exact at0 | exact at1 | exact at2 | exact at3 | exact at4 | exact at5 | exact at6 | exact at7) | exact hH.dcells (by first | exact at0 | exact at1 | exact at2 | exact at3 | exact at4 | exact at5 | exact at6 | exact at7) | assumption) (by exact rfl) (by first | exact at0 | exact at1 | exact at2 | exact at3 | exact at4 | exact at5 | exact at6 | exact at7) (by exact rfl) (by first | exact .inl hF | exact .inr rfl | exact .inr (by assumption)) (fun st hH => ?_)
 try dsimp only [List.set_cons_zero,List.set_cons_succ,List.cons_append,List.nil_append,setMany,List.map_cons,List.map_nil,D.cells,Nat.reduceAdd,List.nil_append,flC] at hH
 refine EvO.nil ?_
 try subst hK
 try change EvC _ _ _ _ _ _
 try change EvC _ _ _ _ _ _
 repeat refine EvC.seq ?_
 try generalize hK : SeqQ _ _ _ _ = K
 refine EvC.reg ?_
 refine EvO.mv (.inl rfl) rfl (ev rfl) (put_T rfl _) ?_
 refine EvO.go rfl rfl rfl (put_T rfl _) ?_
 refine EvO.nil ?_
 try subst hK
 try change EvC _ _ _ _ _ _
 try change EvC _ _ _ _ _ _
 repeat refine EvC.seq ?_
 refine EvC.cond (by first | rfl | assumption) (fun h1 => ?_) (fun h1 => ?_) <;> try simp only [decide_eq_true_eq,decide_eq_false_iff_not,beq_iff_eq,beq_eq_false_iff_ne,bne_iff_ne,bne_eq_false_iff_eq,ne_eq,Bool.not_eq_true',Bool.not_eq_false',Bool.not_eq_true,Bool.not_eq_false] at h1
 ·try change EvC _ _ _ _ _ _
  repeat refine EvC.seq ?_
  try generalize hK : SeqQ _ _ _ _ = K
  refine EvC.reg ?_
  refine EvO.mv (.inr rfl) rfl (ev rfl) (by dsimp only [Fr.put,List.set_cons_succ,List.set_cons_zero] <;> rfl) ?_
  refine EvO.nil ?_
  try subst hK
  try change EvC _ _ _ _ _ _
  refine EvC.ret ⟨fun i h => (by cases h),_,_,_,rfl,rfl,?_⟩
  exact ⟨⟨_,rfl⟩,x,L,hL,hH.drop 1⟩
 ·refine EvC.skip ?_
  try change EvC _ _ _ _ _ _
  obtain ⟨i,hi0⟩ := hfd.resolve_left h1
  obtain ⟨es,hi⟩ := fr1_at hi0
  have hle : es.length <= 65536 := hL.few _ (List.mem_of_getElem? hi)
  have hH1 := hH
  have hH : Has N S st (.box k8 (.mem 0 false [.str f,b]) :: .box ky (.mem 0 false [.ptr kf 0 0,a]) :: .box kf (.mem 0 false [x]) :: .lst x 3 ((fr1 L).map flC) :: .lst b 1 es :: ((L.eraseIdx i).map bE ++ H)) := yp_out (A := [_,_,_,_]) hi hH
  try change EvC _ _ _ _ _ _
  repeat refine EvC.seq ?_
  refine EvC.cutT 25 (.bool (decide (n < 0) || decide (n > ((es.length : Nat) : Int)))) [] ?_ (fun ff tmp htmp => ?_)
  ·refine EvO.mv (.inl rfl) rfl (ev rfl) (put_T rfl _) ?_
   refine EvO.go rfl rfl rfl (put_T rfl _) ?_
   refine EvO.mv (.inl rfl) rfl (ev rfl) (put_T rfl _) ?_
   refine EvO.two 19 rfl (fun hg2 => ?_) (fun hg2 => ?_)
   ·refine EvO.skip (wantD_not rfl rfl rfl hg2) (put_T rfl _) ?_
    refine EvO.skip (wantD_not rfl rfl rfl hg2) (put_T rfl _) ?_
    refine EvO.skip (wantD_not rfl rfl rfl hg2) (put_T rfl _) ?_
    refine EvO.skip (wantD_not rfl rfl rfl hg2) (put_T rfl _) ?_
    refine EvO.skip (wantD_not rfl rfl rfl hg2) (put_T rfl _) ?_
    refine EvO.pickT rfl rfl hg2 (put_T rfl _) ?_
    refine EvO.nil (leafT ?_ ?_)
    ·try dsimp only [setW,List.foldl_cons,List.foldl_nil,nth,List.set_cons_zero,List.set_cons_succ]
     all_goals (first | rfl | simp)
    ·try dsimp only [Fr.putO,Fr.put,Fr.clean,Fr.ev,Fr.get,nth,Go.V.look,List.set_cons_succ,List.set_cons_zero,ofVal_int,ofVal_bool,ofVal_str,ofVal_nul,ofVal_pnil,ofVal_nilfn,ofVal_nilif,List.length,List.cons_append,List.nil_append,List.append_nil,Nat.reduceSub,Nat.reduceAdd,List.map,List.map_cons,List.map_nil]
     all_goals (first | rfl | (simp [hg2]; done) | (simp_all; done) | (simp [hg2]; omega) | (simp_all; omega))
   ·refine EvO.mv (.inl rfl) (wantD_is rfl rfl rfl hg2) (ev rfl) (put_T rfl _) ?_
    refine EvO.pfield (fo := 1) (m := 0) (o := 1) (wantD_is rfl rfl rfl hg2) (ev rfl) rfl rfl rfl (put_T rfl _) ?_
    first | refine EvO.hload hH (wantD_is rfl rfl rfl hg2) (ev rfl) (by first | exact at0 | exact at1 | exact at2 | exact at3 | exact at4 | exact at5 | exact at6 | exact at7) rfl (put_T rfl _) ?_ | refine EvO.rload (wantD_is rfl rfl rfl hg2) (ev rfl) (by assumption) rfl (put_T rfl _) ?_ | refine EvO.oload hH (wantD_is rfl rfl rfl hg2) (ev rfl) (by assumption) (by first | exact at0 | exact at1 | exact at2 | exact at3 | exact at4 | exact at5 | exact at6 | exact at7) (by assumption) rfl (put_T rfl _) ?_
    first | refine EvO.rlen (wantD_is rfl rfl rfl hg2) (ev rfl) (Arg.rows (by assumption) hH) rfl (put_T rfl _) ?_ | refine EvO.rlen (wantD_is rfl rfl rfl hg2) (ev rfl) (hH.rows (by first | exact at0 | exact at1 | exact at2 | exact at3 | exact at4 | exact at5 | exact at6 | exact at7)) rfl (put_T rfl _) ?_ | refine EvO.slen (wantD_is rfl rfl rfl hg2) rfl rfl (put_T rfl _) ?_ | refine EvO.go (wantD_is rfl rfl rfl hg2) rfl rfl (put_T rfl _) ?_
    try simp only [List.length_map,List.length_append,List.length_cons,List.length_nil,List.length_set,List.length_replicate,List.length_reverse]
    refine EvO.go (wantD_is rfl rfl rfl hg2) rfl rfl (put_T rfl _) ?_
    refine EvO.pickF rfl rfl hg2 (put_T rfl _) ?_
    refine EvO.nil (leafT ?_ ?_)
    ·try dsimp only [setW,List.foldl_cons,List.foldl_nil,nth,List.set_cons_zero,List.set_cons_succ]
     all_goals (first | rfl | simp)
    ·try dsimp only [Fr.putO,Fr.put,Fr.clean,Fr.ev,Fr.get,nth,Go.V.look,List.set_cons_succ,List.set_cons_zero,ofVal_int,ofVal_bool,ofVal_str,ofVal_nul,ofVal_pnil,ofVal_nilfn,ofVal_nilif,List.length,List.cons_append,List.nil_append,List.append_nil,Nat.reduceSub,Nat.reduceAdd,List.map,List.map_cons,List.map_nil]
     all_goals (first | rfl | (simp [hg2]; done) | (simp_all; done) | (simp [hg2]; omega) | (simp_all; omega))
  try dsimp only [setW,List.foldl_cons,List.foldl_nil,nth,List.set_cons_zero,List.set_cons_succ]
  try dsimp only [Fr.putO,Fr.put,Fr.clean,Fr.ev,Fr.get,nth,Go.V.look,List.set_cons_succ,List.set_cons_zero,ofVal_int,ofVal_bool,ofVal_str,ofVal_nul,ofVal_pnil,ofVal_nilfn,ofVal_nilif,List.length,List.cons_append,List.nil_append,List.append_nil,Nat.reduceSub,Nat.reduceAdd,List.map,List.map_cons,List.map_nil]
  try change EvC _ _ _ _ _ _
  try change EvC _ _ _ _ _ _
  repeat refine EvC.seq ?_
  refine EvC.cond (by first | rfl | assumption) (fun h2 => ?_) (fun h2 => ?_) <;> try simp only [decide_eq_true_eq,decide_eq_false_iff_not,beq_iff_eq,beq_eq_false_iff_ne,bne_iff_ne,bne_eq_false_iff_eq,ne_eq,Bool.not_eq_true',Bool.not_eq_false',Bool.not_eq_true,Bool.not_eq_false] at h2
  ·try change EvC _ _ _ _ _ _
   repeat refine EvC.seq ?_
   try generalize hK : SeqQ _ _ _ _ = K
   refine EvC.reg ?_
   refine EvO.mv (.inr rfl) rfl (ev rfl) (by dsimp only [Fr.put,List.set_cons_succ,List.set_cons_zero] <;> rfl) ?_
   refine EvO.nil ?_
   try subst hK
   try change EvC _ _ _ _ _ _
   refine EvC.ret ⟨fun i h => (by cases h),_,_,_,rfl,rfl,?_⟩
   exact ⟨⟨_,rfl⟩,x,L,hL,hH1.drop 1⟩
  ·refine EvC.skip ?_
   try change EvC _ _ _ _ _ _
   simp only [Bool.or_eq_false_iff,decide_eq_false_iff_not] at h2
   obtain ⟨m,rfl⟩ : ∃ m : Nat,n = m := ⟨n.toNat,by omega⟩
   have hme : m <= es.length := by omega
   try change EvC _ _ _ _ _ _
   repeat refine EvC.seq ?_
   try generalize hK : SeqQ _ _ _ _ = K
   refine EvC.reg ?_
   refine EvO.pfield (fo := 1) (m := 0) (o := 1) rfl (ev rfl) rfl rfl rfl (put_T rfl _) ?_
   first | refine EvO.hload hH rfl (ev rfl) (by first | exact at0 | exact at1 | exact at2 | exact at3 | exact at4 | exact at5 | exact at6 | exact at7) rfl (put_T rfl _) ?_ | refine EvO.rload rfl (ev rfl) (by assumption) rfl (put_T rfl _) ?_ | refine EvO.oload hH rfl (ev rfl) (by assumption) (by first | exact at0 | exact at1 | exact at2 | exact at3 | exact at4 | exact at5 | exact at6 | exact at7) (by assumption) rfl (put_T rfl _) ?_
   refine EvO.mv (.inl rfl) rfl (ev rfl) (put_T rfl _) ?_
   first | refine EvO.pslice rfl (ev rfl) (by assumption) rfl rfl (bounds_to (by first | omega | (simp only [List.length_map,List.length_reverse,List.length_cons,List.length_append,List.length_nil,List.length_take,List.length_drop,List.length_set,List.length_replicate]; omega))) (fun _ => (put_T rfl _)) (fun y29 hy29 => ?_) | refine EvO.rslice rfl (ev rfl) (by assumption) hH rfl rfl (bounds_to (by first | omega | (simp only [List.length_map,List.length_reverse,List.length_cons,List.length_append,List.length_nil,List.length_take,List.length_drop,List.length_set,List.length_replicate]; omega))) ⟨(by first | omega | (simp only [List.length_map,List.length_reverse,List.length_cons,List.length_append,List.length_nil,List.length_take,List.length_drop,List.length_set,List.length_replicate]; omega)),(by first | omega | (simp only [List.length_map,List.length_reverse,List.length_cons,List.length_append,List.length_nil,List.length_take,List.length_drop,List.length_set,List.length_replicate]; omega))⟩ (fun _ => (put_T rfl _)) (fun y29 hy29 => ?_) | (refine EvO.oslice hH rfl (ev rfl) (by first | exact at0 | exact at1 | exact at2 | exact at3 | exact at4 | exact at5 | exact at6 | exact at7) rfl rfl (bounds_to (by first | omega | (simp only [List.length_map,List.length_reverse,List.length_cons,List.length_append,List.length_nil,List.length_take,List.length_drop,List.length_set,List.length_replicate]; omega))) ⟨(by first | omega | (simp only [List.length_map,List.length_reverse,List.length_cons,List.length_append,List.length_nil,List.length_take,List.length_drop,List.length_set,List.length_replicate]; omega)),(by first | omega | (simp only [List.length_map,List.length_reverse,List.length_cons,List.length_append,List.length_nil,List.length_take,List.length_drop,List.length_set,List.length_replicate]; omega))⟩ (fun _ => (put_T rfl _)) (fun y29 hH => ?_))
   refine EvO.pfield (fo := 1) (m := 0) (o := 1) rfl (ev rfl) rfl rfl rfl (put_T rfl _) ?_
   refine EvO.hstore hH rfl (ev rfl) (ev rfl) (by first | rfl | exact (SlD.cells (by assumption)).1 | exact hH.ocells (by first | exact at0 | exact at1 | exact at2 | exact at3 | exact at4 | exact at5 | exact at6 | exact at7) | exact hH.dcells (by first | exact at0 | exact at1 | exact at2 | exact at3 | exact at4 | exact at5 | exact at6 | exact at7) | assumption) (by exact rfl) (by first | exact at0 | exact at1 | exact at2 | exact at3 | exact at4 | exact at5 | exact at6 | exact at7) (by exact Nat.le_of_ble_eq_true rfl) (by first | exact .inl hF | exact .inr rfl | exact .inr (by assumption)) (fun st hH => ?_)
   try dsimp only [List.set_cons_zero,List.set_cons_succ,List.cons_append,List.nil_append,setMany,List.map_cons,List.map_nil,D.cells,Nat.reduceAdd,List.nil_append,flC] at hH
   refine EvO.nil ?_
   try subst hK
   try change EvC _ _ _ _ _ _
   have hH : Has N S st (.box kf (.mem 0 false [x]) :: .lst x 3 ((fr1 L).map flC) :: .box k8 (.mem 0 false [.str f,y29]) :: .box ky (.mem 0 false [.ptr kf 0 0,a]) :: .lst y29 1 ((es.take m).drop 0) :: ((L.eraseIdx i).map bE ++ H)) := Has.rot [_,_] [_,_] hH
   try change EvC _ _ _ _ _ _
   repeat refine EvC.seq ?_
   try generalize hK : SeqQ _ _ _ _ = K
   refine EvC.reg ?_
   refine EvO.mv (.inl rfl) rfl (ev rfl) (put_T rfl _) ?_
   refine EvO.go rfl rfl rfl (put_T rfl _) ?_
   refine EvO.pfield (fo := 0) (m := 0) (o := 0) rfl (ev rfl) rfl rfl rfl (put_T rfl _) ?_
   first | refine EvO.hload hH rfl (ev rfl) (by first | exact at0 | exact at1 | exact at2 | exact at3 | exact at4 | exact at5 | exact at6 | exact at7) rfl (put_T rfl _) ?_ | refine EvO.rload rfl (ev rfl) (by assumption) rfl (put_T rfl _) ?_ | refine EvO.oload hH rfl (ev rfl) (by assumption) (by first | exact at0 | exact at1 | exact at2 | exact at3 | exact at4 | exact at5 | exact at6 | exact at7) (by assumption) rfl (put_T rfl _) ?_
   refine EvO.mv (.inl rfl) rfl (ev rfl) (put_T rfl _) ?_
   first | refine EvO.hloadS (m := 2) hH rfl (ev rfl) (by first | exact at0 | exact at1 | exact at2 | exact at3 | exact at4 | exact at5 | exact at6 | exact at7) (by dsimp only [List.drop_succ_cons,List.drop_zero,List.take_succ_cons,List.take_zero,flC] <;> rfl) rfl rfl (put_T rfl _) ?_ | refine EvO.rload rfl (ev rfl) (by assumption) rfl (put_T rfl _) ?_ | refine EvO.oload hH rfl (ev rfl) (by assumption) (by first | exact at0 | exact at1 | exact at2 | exact at3 | exact at4 | exact at5 | exact at6 | exact at7) (by assumption) rfl (put_T rfl _) ?_
   obtain ⟨_,st1,hev,x',rfl,hH⟩ := fset_ev (b := y29) (key := ino) (nm := f) hF hH hsm
   refine EvO.hcall rfl rfl hev (put_T rfl _) ?_
   refine EvO.nil ?_
   try subst hK
   try change EvC _ _ _ _ _ _
   try change EvC _ _ _ _ _ _
   repeat refine EvC.seq ?_
   try generalize hK : SeqQ _ _ _ _ = K
   refine EvC.reg ?_
   refine EvO.mv (.inr rfl) rfl (ev rfl) (by dsimp only [Fr.put,List.set_cons_succ,List.set_cons_zero] <;> rfl) ?_
   refine EvO.nil ?_
   try subst hK
   try change EvC _ _ _ _ _ _
   refine EvC.ret ⟨fun i h => (by cases h),_,_,_,rfl,rfl,?_⟩
   exact ⟨⟨_,rfl⟩,yp_set hL hi (by simp; omega) (Has.rot [_,_] [_] (hH.erase 2))⟩
theorem remove_ev {N : Nat} {S s0 : St} {H : List Ent} {ky kf : Nat} {a : D} {nm : List UInt8} (hF : S.flr <= N) (hY : YP N S H ky kf a s0) : ∃ d st',Ev pv 26 [.ptr ky 0 0, .str nm] s0 d st' /\ (∃ e,d = .int .i64 e) /\ YP N S H ky kf a st' := by
 obtain ⟨x,L,hL,hH⟩ := hY
 have hsm := hL.small
 have hll := fr1_len L
 refine Ev.mkE rfl fi26 rfl rfl rfl ?_
 dsimp only [List.cons_append,List.nil_append,List.length,Nat.reduceSub,Nat.reduceAdd,List.replicate_succ,List.replicate_zero]
 change EvC _ _ _ _ s0 _
 try change EvC _ _ _ _ _ _
 repeat refine EvC.seq ?_
 try generalize hK : SeqQ _ _ _ _ = K
 refine EvC.reg ?_
 refine EvO.mv (.inr rfl) rfl (ev rfl) (by dsimp only [Fr.put,List.set_cons_succ,List.set_cons_zero] <;> rfl) ?_
 refine EvO.nil ?_
 try subst hK
 try change EvC _ _ _ _ _ _
 try change EvC _ _ _ _ _ _
 repeat refine EvC.seq ?_
 try generalize hK : SeqQ _ _ _ _ = K
 refine EvC.reg ?_
 refine EvO.mv (.inl rfl) rfl (ev rfl) (put_T rfl _) ?_
 refine EvO.mv (.inl rfl) rfl (ev rfl) (put_T rfl _) ?_
 obtain ⟨_,hev,ino,f,b,rfl,hcb,hfd⟩ := yfind_ev (nm := nm) (hH.at at0) (hH.at at1) (tab_of hH at2 (by omega)) (oldB_of (A := [_,_,_]) hH)
 refine EvO.hcall rfl rfl hev (put_T rfl _) ?_
 refine EvO.mv (.inl rfl) rfl (ev rfl) (put_T rfl _) ?_
 refine EvO.go rfl rfl rfl (put_T rfl _) ?_
 refine EvO.go rfl rfl rfl (put_T rfl _) ?_
 refine EvO.halloc hH rfl rfl (fun _ => (put_T rfl _)) (fun k6 st hk6 hH => ?_)
 try dsimp only [List.set_cons_zero,List.set_cons_succ,List.cons_append,List.nil_append,setMany,List.map_cons,List.map_nil,D.cells,Nat.reduceAdd,List.nil_append,flC] at hH
 refine EvO.mv (.inr rfl) rfl (ev rfl) (by dsimp only [Fr.put,List.set_cons_succ,List.set_cons_zero] <;> rfl) ?_
 refine EvO.hstoreA hH rfl (ev rfl) (ev rfl) (by first | rfl | exact (SlD.cells (by assumption)).1 | exact hH.ocells (by first | exact at0 | exact at1 | exact at2 | exact at3 | exact at4 | exact at5 | exact at6 | exact at7) | exact hH.dcells (by first | exact at0 | exact at1 | exact at2 | exact at3 | exact at4 | exact at5 | exact at6 | exact at7) | assumption) (by exact rfl) (by first | exact at0 | exact at1 | exact at2 | exact at3 | exact at4 | exact at5 | exact at6 | exact at7) (by exact rfl) (by first | exact .inl hF | exact .inr rfl | exact .inr (by assumption)) (fun st hH => ?_)
 try dsimp only [List.set_cons_zero,List.set_cons_succ,List.cons_append,List.nil_append,setMany,List.map_cons,List.map_nil,D.cells,Nat.reduceAdd,List.nil_append,flC] at hH
 refine EvO.nil ?_
 try subst hK
 try change EvC _ _ _ _ _ _
 try change EvC _ _ _ _ _ _
 repeat refine EvC.seq ?_
 try generalize hK : SeqQ _ _ _ _ = K
 refine EvC.reg ?_
 refine EvO.mv (.inl rfl) rfl (ev rfl) (put_T rfl _) ?_
 refine EvO.go rfl rfl rfl (put_T rfl _) ?_
 refine EvO.nil ?_
 try subst hK
 try change EvC _ _ _ _ _ _
 try change EvC _ _ _ _ _ _
 repeat refine EvC.seq ?_
 refine EvC.cond (by first | rfl | assumption) (fun h1 => ?_) (fun h1 => ?_) <;> try simp only [decide_eq_true_eq,decide_eq_false_iff_not,beq_iff_eq,beq_eq_false_iff_ne,bne_iff_ne,bne_eq_false_iff_eq,ne_eq,Bool.not_eq_true',Bool.not_eq_false',Bool.not_eq_true,Bool.not_eq_false] at h1
 ·try change EvC _ _ _ _ _ _
  repeat refine EvC.seq ?_
  try generalize hK : SeqQ _ _ _ _ = K
  refine EvC.reg ?_
  refine EvO.mv (.inr rfl) rfl (ev rfl) (by dsimp only [Fr.put,List.set_cons_succ,List.set_cons_zero] <;> rfl) ?_
  refine EvO.nil ?_
  try subst hK
  try change EvC _ _ _ _ _ _
  refine EvC.ret ⟨fun i h => (by cases h),_,_,_,rfl,rfl,?_⟩
  exact ⟨⟨_,rfl⟩,x,L,hL,hH.drop 1⟩
 ·refine EvC.skip ?_
  try change EvC _ _ _ _ _ _
  obtain ⟨i,hi0⟩ := hfd.resolve_left h1
  obtain ⟨es,hi⟩ := fr1_at hi0
  obtain ⟨hfi,hth⟩ := find_mem hL.srt hi0
  have hfi : findT (fr1 L) ino = i := hfi
  have hH : Has N S st (.box kf (.mem 0 false [x]) :: .lst x 3 ((fr1 L).map flC) :: .box k6 (.mem 0 false [.str f,b]) :: .box ky (.mem 0 false [.ptr kf 0 0,a]) :: (L.map bE ++ H)) := Has.rot [_,_] [_,_] hH
  try change EvC _ _ _ _ _ _
  repeat refine EvC.seq ?_
  try generalize hK : SeqQ _ _ _ _ = K
  refine EvC.reg ?_
  refine EvO.mv (.inl rfl) rfl (ev rfl) (put_T rfl _) ?_
  refine EvO.go rfl rfl rfl (put_T rfl _) ?_
  refine EvO.pfield (fo := 0) (m := 0) (o := 0) rfl (ev rfl) rfl rfl rfl (put_T rfl _) ?_
  first | refine EvO.hload hH rfl (ev rfl) (by first | exact at0 | exact at1 | exact at2 | exact at3 | exact at4 | exact at5 | exact at6 | exact at7) rfl (put_T rfl _) ?_ | refine EvO.rload rfl (ev rfl) (by assumption) rfl (put_T rfl _) ?_ | refine EvO.oload hH rfl (ev rfl) (by assumption) (by first | exact at0 | exact at1 | exact at2 | exact at3 | exact at4 | exact at5 | exact at6 | exact at7) (by assumption) rfl (put_T rfl _) ?_
  refine EvO.mv (.inl rfl) rfl (ev rfl) (put_T rfl _) ?_
  obtain ⟨_,st1,hev,x',hH⟩ := delT_ev hF hH hsm hth
  refine EvO.hcall rfl rfl hev (put_T rfl _) ?_
  refine EvO.nil ?_
  try subst hK
  try change EvC _ _ _ _ _ _
  rw [hfi] at hH
  try change EvC _ _ _ _ _ _
  repeat refine EvC.seq ?_
  try generalize hK : SeqQ _ _ _ _ = K
  refine EvC.reg ?_
  refine EvO.mv (.inr rfl) rfl (ev rfl) (by dsimp only [Fr.put,List.set_cons_succ,List.set_cons_zero] <;> rfl) ?_
  refine EvO.nil ?_
  try subst hK
  try change EvC _ _ _ _ _ _
  refine EvC.ret ⟨fun i h => (by cases h),_,_,_,rfl,rfl,?_⟩
  exact ⟨⟨_,rfl⟩,x',L.eraseIdx i,hL.era,yp_era hi (Has.rot [_,_] [_] (hH.erase 2))⟩
theorem era_at {L : List Fy} {i j : Nat} {p : Fy} (hi : L[i]? = some p) (hne : i ≠ j) : ∃ i' : Nat,(L.eraseIdx j)[i']? = some p := by
 by_cases h : i < j
 ·exact ⟨i,by rw [List.getElem?_eraseIdx,if_pos h]; exact hi⟩
 ·refine ⟨i - 1,?_⟩
  rw [List.getElem?_eraseIdx,if_neg (by omega), <- hi]; congr 1; omega
theorem rename_ev {N : Nat} {S s0 : St} {H : List Ent} {ky kf : Nat} {a : D} {nm to : List UInt8} (hF : S.flr <= N) (hY : YP N S H ky kf a s0) (hl : to.length <= 1048576) : ∃ d st',Ev pv 24 [.ptr ky 0 0, .str nm, .str to] s0 d st' /\ (∃ e,d = .int .i64 e) /\ YP N S H ky kf a st' := by
 obtain ⟨x,L,hL,hH⟩ := hY
 have hsm := hL.small
 have hll := fr1_len L
 refine Ev.mkE rfl fi24 rfl rfl rfl ?_
 dsimp only [List.cons_append,List.nil_append,List.length,Nat.reduceSub,Nat.reduceAdd,List.replicate_succ,List.replicate_zero]
 change EvC _ _ _ _ s0 _
 try change EvC _ _ _ _ _ _
 repeat refine EvC.seq ?_
 try generalize hK : SeqQ _ _ _ _ = K
 refine EvC.reg ?_
 refine EvO.mv (.inr rfl) rfl (ev rfl) (by dsimp only [Fr.put,List.set_cons_succ,List.set_cons_zero] <;> rfl) ?_
 refine EvO.nil ?_
 try subst hK
 try change EvC _ _ _ _ _ _
 try change EvC _ _ _ _ _ _
 repeat refine EvC.seq ?_
 try generalize hK : SeqQ _ _ _ _ = K
 refine EvC.reg ?_
 refine EvO.mv (.inl rfl) rfl (ev rfl) (put_T rfl _) ?_
 obtain ⟨_,hev,bn,rfl⟩ := named_ev (s0 := s0) hl
 refine EvO.hcall rfl rfl hev (put_T rfl _) ?_
 refine EvO.go rfl rfl rfl (put_T rfl _) ?_
 refine EvO.nil ?_
 try subst hK
 try change EvC _ _ _ _ _ _
 cases bn with
 | false =>
  try change EvC _ _ _ _ _ _
  repeat refine EvC.seq ?_
  refine EvC.cond (v := true) (by first | assumption | (dsimp only [Fr.ev,Fr.get,nth,Go.V.look]; rfl)) (fun _ => ?_) (fun h => by cases h)
  try change EvC _ _ _ _ _ _
  try change EvC _ _ _ _ _ _
  repeat refine EvC.seq ?_
  try generalize hK : SeqQ _ _ _ _ = K
  refine EvC.reg ?_
  refine EvO.mv (.inr rfl) rfl (ev rfl) (by dsimp only [Fr.put,List.set_cons_succ,List.set_cons_zero] <;> rfl) ?_
  refine EvO.nil ?_
  try subst hK
  try change EvC _ _ _ _ _ _
  refine EvC.ret ⟨fun i h => (by cases h),_,_,_,rfl,rfl,?_⟩
  exact ⟨⟨_,rfl⟩,x,L,hL,hH⟩
 | true =>
  try change EvC _ _ _ _ _ _
  repeat refine EvC.seq ?_
  refine EvC.cond (v := false) (by first | assumption | (dsimp only [Fr.ev,Fr.get,nth,Go.V.look]; rfl)) (fun h => by cases h) (fun _ => ?_)
  try change EvC _ _ _ _ _ _
  refine EvC.skip ?_
  try change EvC _ _ _ _ _ _
  try change EvC _ _ _ _ _ _
  repeat refine EvC.seq ?_
  try generalize hK : SeqQ _ _ _ _ = K
  refine EvC.reg ?_
  refine EvO.mv (.inl rfl) rfl (ev rfl) (put_T rfl _) ?_
  refine EvO.mv (.inl rfl) rfl (ev rfl) (put_T rfl _) ?_
  obtain ⟨_,hev,ino,f,b,rfl,hcb,hfd⟩ := yfind_ev (nm := nm) (hH.at at0) (hH.at at1) (tab_of hH at2 (by omega)) (oldB_of (A := [_,_,_]) hH)
  refine EvO.hcall rfl rfl hev (put_T rfl _) ?_
  refine EvO.mv (.inl rfl) rfl (ev rfl) (put_T rfl _) ?_
  refine EvO.go rfl rfl rfl (put_T rfl _) ?_
  refine EvO.go rfl rfl rfl (put_T rfl _) ?_
  refine EvO.halloc hH rfl rfl (fun _ => by dsimp only [Fr.put,List.set_cons_succ,List.set_cons_zero] <;> rfl) (fun k8 st hk8 hH => ?_)
  try dsimp only [List.set_cons_zero,List.set_cons_succ,List.cons_append,List.nil_append,setMany,List.map_cons,List.map_nil,D.cells,Nat.reduceAdd,List.nil_append,flC] at hH
  refine EvO.mv (.inr rfl) rfl (ev rfl) (by dsimp only [Fr.put,List.set_cons_succ,List.set_cons_zero] <;> rfl) ?_
  refine EvO.hstoreA hH rfl (ev rfl) (ev rfl) (by first | rfl | exact (SlD.cells (by assumption)).1 | exact hH.ocells (by first | exact at0 | exact at1 | exact at2 | exact at3 | exact at4 | exact at5 | exact at6 | exact at7) | exact hH.dcells (by first | exact at0 | exact at1 | exact at2 | exact at3 | exact at4 | exact at5 | exact at6 | exact at7) | assumption) (by exact rfl) (by first | exact at0 | exact at1 | exact at2 | exact at3 | exact at4 | exact at5 | exact at6 | exact at7) (by exact rfl) (by first | exact .inl hF | exact .inr rfl | exact .inr (by assumption)) (fun st hH => ?_)
  try dsimp only [List.set_cons_zero,List.set_cons_succ,List.cons_append,List.nil_append,setMany,List.map_cons,List.map_nil,D.cells,Nat.reduceAdd,List.nil_append,flC] at hH
  refine EvO.nil ?_
  try subst hK
  try change EvC _ _ _ _ _ _
  try change EvC _ _ _ _ _ _
  repeat refine EvC.seq ?_
  try generalize hK : SeqQ _ _ _ _ = K
  refine EvC.reg ?_
  refine EvO.mv (.inl rfl) rfl (ev rfl) (put_T rfl _) ?_
  refine EvO.go rfl rfl rfl (put_T rfl _) ?_
  refine EvO.nil ?_
  try subst hK
  try change EvC _ _ _ _ _ _
  try change EvC _ _ _ _ _ _
  repeat refine EvC.seq ?_
  refine EvC.cond (by first | rfl | assumption) (fun h1 => ?_) (fun h1 => ?_) <;> try simp only [decide_eq_true_eq,decide_eq_false_iff_not,beq_iff_eq,beq_eq_false_iff_ne,bne_iff_ne,bne_eq_false_iff_eq,ne_eq,Bool.not_eq_true',Bool.not_eq_false',Bool.not_eq_true,Bool.not_eq_false] at h1
  ·try change EvC _ _ _ _ _ _
   repeat refine EvC.seq ?_
   try generalize hK : SeqQ _ _ _ _ = K
   refine EvC.reg ?_
   refine EvO.mv (.inr rfl) rfl (ev rfl) (by dsimp only [Fr.put,List.set_cons_succ,List.set_cons_zero] <;> rfl) ?_
   refine EvO.nil ?_
   try subst hK
   try change EvC _ _ _ _ _ _
   refine EvC.ret ⟨fun i h => (by cases h),_,_,_,rfl,rfl,?_⟩
   exact ⟨⟨_,rfl⟩,x,L,hL,hH.drop 1⟩
  ·refine EvC.skip ?_
   try change EvC _ _ _ _ _ _
   obtain ⟨i,hi0⟩ := hfd.resolve_left h1
   obtain ⟨es,hi⟩ := fr1_at hi0
   try change EvC _ _ _ _ _ _
   repeat refine EvC.seq ?_
   try generalize hK : SeqQ _ _ _ _ = K
   refine EvC.reg ?_
   refine EvO.mv (.inl rfl) rfl (ev rfl) (put_T rfl _) ?_
   refine EvO.mv (.inl rfl) rfl (ev rfl) (put_T rfl _) ?_
   obtain ⟨_,hev,ino2,f2,b2,rfl,hcb2,hfd2⟩ := yfind_ev (nm := to) (hH.at at1) (hH.at at2) (tab_of hH at3 (by omega)) (oldB_of (A := [_,_,_,_]) hH)
   refine EvO.hcall rfl rfl hev (put_T rfl _) ?_
   refine EvO.mv (.inl rfl) rfl (ev rfl) (put_T rfl _) ?_
   refine EvO.go rfl rfl rfl (put_T rfl _) ?_
   refine EvO.go rfl rfl rfl (put_T rfl _) ?_
   refine EvO.halloc hH rfl rfl (fun _ => (put_T rfl _)) (fun k10 st hk10 hH => ?_)
   try dsimp only [List.set_cons_zero,List.set_cons_succ,List.cons_append,List.nil_append,setMany,List.map_cons,List.map_nil,D.cells,Nat.reduceAdd,List.nil_append,flC] at hH
   refine EvO.mv (.inr rfl) rfl (ev rfl) (by dsimp only [Fr.put,List.set_cons_succ,List.set_cons_zero] <;> rfl) ?_
   refine EvO.hstoreA hH rfl (ev rfl) (ev rfl) (by first | rfl | exact (SlD.cells (by assumption)).1 | exact hH.ocells (by first | exact at0 | exact at1 | exact at2 | exact at3 | exact at4 | exact at5 | exact at6 | exact at7) | exact hH.dcells (by first | exact at0 | exact at1 | exact at2 | exact at3 | exact at4 | exact at5 | exact at6 | exact at7) | assumption) (by exact rfl) (by first | exact at0 | exact at1 | exact at2 | exact at3 | exact at4 | exact at5 | exact at6 | exact at7) (by exact rfl) (by first | exact .inl hF | exact .inr rfl | exact .inr (by assumption)) (fun st hH => ?_)
   try dsimp only [List.set_cons_zero,List.set_cons_succ,List.cons_append,List.nil_append,setMany,List.map_cons,List.map_nil,D.cells,Nat.reduceAdd,List.nil_append,flC] at hH
   refine EvO.nil ?_
   try subst hK
   try change EvC _ _ _ _ _ _
   try change EvC _ _ _ _ _ _
   repeat refine EvC.seq ?_
   refine EvC.cutT 34 (.bool (ino2 != 0 && ino2 != ino)) [] ?_ (fun ff tmp htmp => ?_)
   ·refine EvO.mv (.inl rfl) rfl (ev rfl) (put_T rfl _) ?_
    refine EvO.go rfl rfl rfl (put_T rfl _) ?_
    refine EvO.mv (.inl rfl) rfl (ev rfl) (put_T rfl _) ?_
    refine EvO.two 30 rfl (fun hg2 => ?_) (fun hg2 => ?_)
    ·refine EvO.mv (.inl rfl) (wantD_is rfl rfl rfl hg2) (ev rfl) (put_T rfl _) ?_
     refine EvO.mv (.inl rfl) (wantD_is rfl rfl rfl hg2) (ev rfl) (put_T rfl _) ?_
     refine EvO.go (wantD_is rfl rfl rfl hg2) rfl rfl (put_T rfl _) ?_
     refine EvO.pickT rfl rfl hg2 (put_T rfl _) ?_
     refine EvO.nil (leafT ?_ ?_)
     ·try dsimp only [setW,List.foldl_cons,List.foldl_nil,nth,List.set_cons_zero,List.set_cons_succ]
      all_goals (first | rfl | simp)
     ·try dsimp only [Fr.putO,Fr.put,Fr.clean,Fr.ev,Fr.get,nth,Go.V.look,List.set_cons_succ,List.set_cons_zero,ofVal_int,ofVal_bool,ofVal_str,ofVal_nul,ofVal_pnil,ofVal_nilfn,ofVal_nilif,List.length,List.cons_append,List.nil_append,List.append_nil,Nat.reduceSub,Nat.reduceAdd,List.map,List.map_cons,List.map_nil]
      all_goals (first | rfl | (simp [hg2]; done) | (simp_all; done) | (simp [hg2]; omega) | (simp_all; omega))
    ·refine EvO.skip (wantD_not rfl rfl rfl hg2) (put_T rfl _) ?_
     refine EvO.skip (wantD_not rfl rfl rfl hg2) (put_T rfl _) ?_
     refine EvO.skip (wantD_not rfl rfl rfl hg2) (put_T rfl _) ?_
     refine EvO.pickF rfl rfl hg2 (put_T rfl _) ?_
     refine EvO.nil (leafT ?_ ?_)
     ·try dsimp only [setW,List.foldl_cons,List.foldl_nil,nth,List.set_cons_zero,List.set_cons_succ]
      all_goals (first | rfl | simp)
     ·try dsimp only [Fr.putO,Fr.put,Fr.clean,Fr.ev,Fr.get,nth,Go.V.look,List.set_cons_succ,List.set_cons_zero,ofVal_int,ofVal_bool,ofVal_str,ofVal_nul,ofVal_pnil,ofVal_nilfn,ofVal_nilif,List.length,List.cons_append,List.nil_append,List.append_nil,Nat.reduceSub,Nat.reduceAdd,List.map,List.map_cons,List.map_nil]
      all_goals (first | rfl | (simp [hg2]; done) | (simp_all; done) | (simp [hg2]; omega) | (simp_all; omega))
   try dsimp only [setW,List.foldl_cons,List.foldl_nil,nth,List.set_cons_zero,List.set_cons_succ]
   try dsimp only [Fr.putO,Fr.put,Fr.clean,Fr.ev,Fr.get,nth,Go.V.look,List.set_cons_succ,List.set_cons_zero,ofVal_int,ofVal_bool,ofVal_str,ofVal_nul,ofVal_pnil,ofVal_nilfn,ofVal_nilif,List.length,List.cons_append,List.nil_append,List.append_nil,Nat.reduceSub,Nat.reduceAdd,List.map,List.map_cons,List.map_nil]
   try change EvC _ _ _ _ _ _
   have hH : Has N S st (.box kf (.mem 0 false [x]) :: .lst x 3 ((fr1 L).map flC) :: .box k8 (.mem 0 false [.str f,b]) :: .box ky (.mem 0 false [.ptr kf 0 0,a]) :: (L.map bE ++ H)) := Has.rot [_,_] [_,_] (hH.drop 1)
   try change EvC _ _ _ _ _ _
   repeat refine EvC.seq ?_
   refine EvC.merge (fun fr st => ∃ (x2 : D) (L2 : List Fy) (i2 : Nat) (tmp : List (Nat × D)),fr = ⟨10, [.ptr ky 0 0, .str nm, .str to,ixF_Tn fr 3,ixF_Tn fr 4,ixF_Tn fr 5, .int .i64 0, .int .i64 ino, .ptr k8 0 0,ixF_Tn fr 9],tmp⟩ /\ Has N S st (.box kf (.mem 0 false [x2]) :: .lst x2 3 ((fr1 L2).map flC) :: .box k8 (.mem 0 false [.str f,b]) :: .box ky (.mem 0 false [.ptr kf 0 0,a]) :: (L2.map bE ++ H)) /\ (YOk L2) /\ (L2[i2]? = some (⟨ino,f,b⟩,es))) ?_ ?_
   ·try change EvC _ _ _ _ _ _
    repeat refine EvC.seq ?_
    refine EvC.cond (by first | rfl | assumption) (fun h2 => ?_) (fun h2 => ?_) <;> try simp only [decide_eq_true_eq,decide_eq_false_iff_not,beq_iff_eq,beq_eq_false_iff_ne,bne_iff_ne,bne_eq_false_iff_eq,ne_eq,Bool.not_eq_true',Bool.not_eq_false',Bool.not_eq_true,Bool.not_eq_false] at h2
    ·simp only [Bool.and_eq_true,bne_iff_ne,ne_eq] at h2
     obtain ⟨j,hj0⟩ := hfd2.resolve_left h2.1
     obtain ⟨es2,hj⟩ := fr1_at hj0
     obtain ⟨hfj,hth⟩ := find_mem hL.srt hj0
     have hfj : findT (fr1 L) ino2 = j := hfj
     have hij : i ≠ j := fun e => by
      subst e
      rw [hi0] at hj0
      simp only [Option.some.injEq,Fl.mk.injEq] at hj0
      exact h2.2 hj0.1.symm
     obtain ⟨i',hi'⟩ := era_at hi hij
     try change EvC _ _ _ _ _ _
     repeat refine EvC.seq ?_
     try generalize hK : SeqQ _ _ _ _ = K
     refine EvC.reg ?_
     refine EvO.mv (.inl rfl) rfl (ev rfl) (put_T rfl _) ?_
     refine EvO.go rfl rfl rfl (put_T rfl _) ?_
     refine EvO.pfield (fo := 0) (m := 0) (o := 0) rfl (ev rfl) rfl rfl rfl (put_T rfl _) ?_
     first | refine EvO.hload hH rfl (ev rfl) (by first | exact at0 | exact at1 | exact at2 | exact at3 | exact at4 | exact at5 | exact at6 | exact at7) rfl (put_T rfl _) ?_ | refine EvO.rload rfl (ev rfl) (by assumption) rfl (put_T rfl _) ?_ | refine EvO.oload hH rfl (ev rfl) (by assumption) (by first | exact at0 | exact at1 | exact at2 | exact at3 | exact at4 | exact at5 | exact at6 | exact at7) (by assumption) rfl (put_T rfl _) ?_
     refine EvO.mv (.inl rfl) rfl (ev rfl) (put_T rfl _) ?_
     obtain ⟨_,st1,hev,x',hH⟩ := delT_ev hF hH hsm hth
     refine EvO.hcall rfl rfl hev (put_T rfl _) ?_
     refine EvO.nil ?_
     try subst hK
     try change EvC _ _ _ _ _ _
     rw [hfj, <- fr1_era] at hH
     have hH : Has N S st1 (.box kf (.mem 0 false [x']) :: .lst x' 3 ((fr1 (L.eraseIdx j)).map flC) :: .box k8 (.mem 0 false [.str f,b]) :: .box ky (.mem 0 false [.ptr kf 0 0,a]) :: ((L.eraseIdx j).map bE ++ H)) := (Has.perm (A := [_,_,_,_]) (take_out hj H) hH).erase 4
     exact ⟨x',L.eraseIdx j,i',_,rfl,hH,hL.era,hi'⟩
    ·refine EvC.skip ?_
     try change EvC _ _ _ _ _ _
     exact ⟨x,L,i,_,rfl,hH,hL,hi⟩
   rintro fr st ⟨x2,L2,i2,tmp,hfr,hH,hL2,hi2⟩
   rw [hfr]
   clear hfr
   try generalize ixF_Tn fr = ee
   clear fr
   try change EvC _ _ _ _ _ _
   try change EvC _ _ _ _ _ _
   repeat refine EvC.seq ?_
   try generalize hK : SeqQ _ _ _ _ = K
   refine EvC.reg ?_
   refine EvO.mv (.inl rfl) rfl (ev rfl) (put_T rfl _) ?_
   refine EvO.pfield (fo := 0) (m := 0) (o := 0) rfl (ev rfl) rfl rfl rfl (put_T rfl _) ?_
   refine EvO.hstore hH rfl (ev rfl) (ev rfl) (by first | rfl | exact (SlD.cells (by assumption)).1 | exact hH.ocells (by first | exact at0 | exact at1 | exact at2 | exact at3 | exact at4 | exact at5 | exact at6 | exact at7) | exact hH.dcells (by first | exact at0 | exact at1 | exact at2 | exact at3 | exact at4 | exact at5 | exact at6 | exact at7) | assumption) (by exact rfl) (by first | exact at0 | exact at1 | exact at2 | exact at3 | exact at4 | exact at5 | exact at6 | exact at7) (by exact Nat.le_of_ble_eq_true rfl) (by first | exact .inl hF | exact .inr rfl | exact .inr (by assumption)) (fun st hH => ?_)
   try dsimp only [List.set_cons_zero,List.set_cons_succ,List.cons_append,List.nil_append,setMany,List.map_cons,List.map_nil,D.cells,Nat.reduceAdd,List.nil_append,flC] at hH
   refine EvO.nil ?_
   try subst hK
   try change EvC _ _ _ _ _ _
   have hH : Has N S st (.box kf (.mem 0 false [x2]) :: .lst x2 3 ((fr1 L2).map flC) :: .box k8 (.mem 0 false [.str to,b]) :: .box ky (.mem 0 false [.ptr kf 0 0,a]) :: .lst b 1 es :: ((L2.eraseIdx i2).map bE ++ H)) := yp_out (A := [_,_,_,_]) hi2 hH
   try change EvC _ _ _ _ _ _
   repeat refine EvC.seq ?_
   try generalize hK : SeqQ _ _ _ _ = K
   refine EvC.reg ?_
   refine EvO.mv (.inl rfl) rfl (ev rfl) (put_T rfl _) ?_
   refine EvO.go rfl rfl rfl (put_T rfl _) ?_
   refine EvO.pfield (fo := 0) (m := 0) (o := 0) rfl (ev rfl) rfl rfl rfl (put_T rfl _) ?_
   first | refine EvO.hload hH rfl (ev rfl) (by first | exact at0 | exact at1 | exact at2 | exact at3 | exact at4 | exact at5 | exact at6 | exact at7) rfl (put_T rfl _) ?_ | refine EvO.rload rfl (ev rfl) (by assumption) rfl (put_T rfl _) ?_ | refine EvO.oload hH rfl (ev rfl) (by assumption) (by first | exact at0 | exact at1 | exact at2 | exact at3 | exact at4 | exact at5 | exact at6 | exact at7) (by assumption) rfl (put_T rfl _) ?_
   refine EvO.mv (.inl rfl) rfl (ev rfl) (put_T rfl _) ?_
   first | refine EvO.hloadS (m := 2) hH rfl (ev rfl) (by first | exact at0 | exact at1 | exact at2 | exact at3 | exact at4 | exact at5 | exact at6 | exact at7) (by dsimp only [List.drop_succ_cons,List.drop_zero,List.take_succ_cons,List.take_zero,flC] <;> rfl) rfl rfl (put_T rfl _) ?_ | refine EvO.rload rfl (ev rfl) (by assumption) rfl (put_T rfl _) ?_ | refine EvO.oload hH rfl (ev rfl) (by assumption) (by first | exact at0 | exact at1 | exact at2 | exact at3 | exact at4 | exact at5 | exact at6 | exact at7) (by assumption) rfl (put_T rfl _) ?_
   obtain ⟨_,st1,hev,x',rfl,hH⟩ := fset_ev (b := b) (key := ino) (nm := to) hF hH hL2.small
   refine EvO.hcall rfl rfl hev (put_T rfl _) ?_
   refine EvO.nil ?_
   try subst hK
   try change EvC _ _ _ _ _ _
   try change EvC _ _ _ _ _ _
   repeat refine EvC.seq ?_
   try generalize hK : SeqQ _ _ _ _ = K
   refine EvC.reg ?_
   refine EvO.mv (.inr rfl) rfl (ev rfl) (by dsimp only [Fr.put,List.set_cons_succ,List.set_cons_zero] <;> rfl) ?_
   refine EvO.nil ?_
   try subst hK
   try change EvC _ _ _ _ _ _
   refine EvC.ret ⟨fun i h => (by cases h),_,_,_,rfl,rfl,?_⟩
   exact ⟨⟨_,rfl⟩,yp_set hL2 hi2 (hL2.few _ (List.mem_of_getElem? hi2)) (Has.rot [_,_] [_] (hH.erase 2))⟩
end Go.Proofs.YtopaaegigcfkeaaGreat
