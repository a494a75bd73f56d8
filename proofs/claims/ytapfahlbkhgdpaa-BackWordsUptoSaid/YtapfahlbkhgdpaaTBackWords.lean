/- own -/
import Derived.Test.YtapfahlbkhgdpaaTGQh
import Derived.Test.YtapfahlbkhgdpaaTGQm
import Derived.Test.YtapfahlbkhgdpaaTGBc
import Derived.Test.YtapfahlbkhgdpaaRows
import Derived.WalkKit
import Derived.ProofKit
import Derived.OpenShut
import Derived.JoinedCond
import Derived.ChangeOld
import Derived.Deep.DeepHandedRow
import Derived.Lib.IndexBytes
set_option maxRecDepth 100000
set_option maxHeartbeats 4000000
set_option linter.unusedSimpArgs false
set_option linter.unusedVariables false
namespace Go.Proofs.Ytapfahlbkhgdpaa.backWords
open Go.ChangeShapes Go.WideShapes Go.ChangeAt Go.RowKit Go.V
def ixF_BackWordsLaw (fr : Go.V.Fr) (k : Nat) : Go.V.D := Go.V.nth .junk fr.loc k
theorem head_ev {s0 : St} (b : List UInt8) : Ev pv 4 [.str b, .int .i64 150] s0 (.str (b.take 150)) s0 := by
 refine Ev.mk1 rfl fi4 rfl rfl rfl ?_
 dsimp only [List.cons_append,List.nil_append,List.length,Nat.reduceSub,Nat.reduceAdd,List.replicate_succ,List.replicate_zero]
 have hSb : (enterSt .ro s0).bs = s0.bs := rfl
 have hF : (enterSt .ro s0).flr <= s0.bs.length := Nat.le_refl _
 have hH : Has s0.bs.length (enterSt .ro s0) (enterSt .ro s0) [] := Has.start (Nat.le_refl _) (Nat.le_refl _)
 generalize enterSt .ro s0 = S at *
 try change EvC _ _ _ _ _ _
 repeat refine EvC.seq ?_
 try generalize hK : SeqQ _ _ _ _ = K
 refine EvC.reg ?_
 refine EvO.mv (.inr rfl) rfl (ev rfl) (by dsimp only [Fr.put,List.set_cons_succ,List.set_cons_zero] <;> rfl) ?_
 refine EvO.nil ?_
 try subst hK
 try change EvC _ _ _ _ _ _
 try change EvC _ _ _ _ _ _
 repeat refine EvC.seq ?_
 try generalize hK : SeqQ _ _ _ _ = K
 refine EvC.reg ?_
 refine EvO.mv (.inl rfl) rfl (ev rfl) (put_T rfl _) ?_
 first | refine EvO.rlen rfl (ev rfl) (Arg.rows (by assumption) hH) rfl (put_T rfl _) ?_ | refine EvO.rlen rfl (ev rfl) (hH.rows (by first | exact at0 | exact at1 | exact at2 | exact at3 | exact at4 | exact at5 | exact at6 | exact at7)) rfl (put_T rfl _) ?_ | refine EvO.slen rfl rfl rfl (put_T rfl _) ?_ | refine EvO.go rfl rfl rfl (put_T rfl _) ?_
 try simp only [List.length_map,List.length_append,List.length_cons,List.length_nil,List.length_set,List.length_replicate,List.length_reverse]
 refine EvO.mv (.inl rfl) rfl (ev rfl) (put_T rfl _) ?_
 refine EvO.go rfl rfl rfl (put_T rfl _) ?_
 refine EvO.nil ?_
 try subst hK
 try change EvC _ _ _ _ _ _
 try change EvC _ _ _ _ _ _
 repeat refine EvC.seq ?_
 refine EvC.cond (by first | rfl | assumption) (fun h0 => ?_) (fun h0 => ?_) <;> try simp only [decide_eq_true_eq,decide_eq_false_iff_not,beq_iff_eq,beq_eq_false_iff_ne,bne_iff_ne,bne_eq_false_iff_eq,ne_eq,Bool.not_eq_true',Bool.not_eq_false',Bool.not_eq_true,Bool.not_eq_false] at h0
 ·try change EvC _ _ _ _ _ _
  repeat refine EvC.seq ?_
  try generalize hK : SeqQ _ _ _ _ = K
  refine EvC.reg ?_
  refine EvO.mv (.inl rfl) rfl (ev rfl) (put_T rfl _) ?_
  refine EvO.mv (.inl rfl) rfl (ev rfl) (put_T rfl _) ?_
  refine EvO.go (d := .str (b.take 150)) (st1 := _) rfl rfl (by show Option.map _ (Option.map _ (boundsD b.length none (some (.int .i64 ((150 : Nat) : Int))))) = _; rw [bounds_to (by omega)]; rfl) (put_T rfl _) ?_
  refine EvO.mv (.inr rfl) rfl (ev rfl) (by dsimp only [Fr.put,List.set_cons_succ,List.set_cons_zero] <;> rfl) ?_
  refine EvO.nil ?_
  try subst hK
  try change EvC _ _ _ _ _ _
  refine EvC.ret ⟨fun i h => (by cases h),_,rfl,leave_ro (by simp) hSb hH (rfl)⟩
 ·rw [List.take_of_length_le (by omega)]
  refine EvC.skip ?_
  try change EvC _ _ _ _ _ _
  try change EvC _ _ _ _ _ _
  repeat refine EvC.seq ?_
  try generalize hK : SeqQ _ _ _ _ = K
  refine EvC.reg ?_
  refine EvO.mv (.inl rfl) rfl (ev rfl) (put_T rfl _) ?_
  refine EvO.mv (.inr rfl) rfl (ev rfl) (by dsimp only [Fr.put,List.set_cons_succ,List.set_cons_zero] <;> rfl) ?_
  refine EvO.nil ?_
  try subst hK
  try change EvC _ _ _ _ _ _
  refine EvC.ret ⟨fun i h => (by cases h),_,rfl,leave_ro (by simp) hSb hH (rfl)⟩
theorem made14y_ev {s0 : St} {x : D} {ps : List (List UInt8)} (hx : V.Rows s0 1 x (ps.map strC)) (hl : ps.length <= 1048576) (hb : ∀ b ∈ ps,b.length <= 1048576) (hall : ∀ b ∈ ps,(parseX b).2.1 = 0) (hce : (compileS (partsX ps)).e = 0) : Ev pv 5 [x] s0 (.tup [(pgV (compileS (partsX ps)).code (compileS (partsX ps)).starts).d, .bool true]) s0 := by
 suffices hg : ∃ d,Ev pv 5 [x] s0 d s0 /\ d = .tup [(pgV (compileS (partsX ps)).code (compileS (partsX ps)).starts).d, .bool true] by
  obtain ⟨d,h1,rfl⟩ := hg
  exact h1
 refine Ev.mkR rfl fi5 rfl rfl rfl ?_
 dsimp only [List.cons_append,List.nil_append,List.length,Nat.reduceSub,Nat.reduceAdd,List.replicate_succ,List.replicate_zero]
 have hSb : (enterSt .ro s0).bs = s0.bs := rfl
 have hF : (enterSt .ro s0).flr <= s0.bs.length := Nat.le_refl _
 have hH : Has s0.bs.length (enterSt .ro s0) (enterSt .ro s0) [] := Has.start (Nat.le_refl _) (Nat.le_refl _)
 generalize enterSt .ro s0 = S at *
 have hx := Arg.of hx hSb
 try change EvC _ _ _ _ _ _
 repeat refine EvC.seq ?_
 try generalize hK : SeqQ _ _ _ _ = K
 refine EvC.reg ?_
 refine EvO.halloc hH rfl rfl (fun _ => by dsimp only [Fr.put,List.set_cons_succ,List.set_cons_zero] <;> rfl) (fun k2 st hk2 hH => ?_)
 try dsimp only [List.set_cons_zero,List.set_cons_succ,List.cons_append,List.nil_append,setMany,List.map_cons,List.map_nil,D.cells,Nat.reduceAdd,List.nil_append,partC,compD,Pg.d,Pg.cs,pgV,parseD] at hH
 refine EvO.mv (.inr rfl) rfl (ev rfl) (by dsimp only [Fr.put,List.set_cons_succ,List.set_cons_zero] <;> rfl) ?_
 refine EvO.nil ?_
 try subst hK
 try change EvC _ _ _ _ _ _
 try change EvC _ _ _ _ _ _
 repeat refine EvC.seq ?_
 try generalize hK : SeqQ _ _ _ _ = K
 refine EvC.reg ?_
 refine EvO.mv (.inr rfl) rfl (ev rfl) (by dsimp only [Fr.put,List.set_cons_succ,List.set_cons_zero] <;> rfl) ?_
 refine EvO.nil ?_
 try subst hK
 try change EvC _ _ _ _ _ _
 try change EvC _ _ _ _ _ _
 repeat refine EvC.seq ?_
 try generalize hK : SeqQ _ _ _ _ = K
 refine EvC.reg ?_
 refine EvO.mv (.inr rfl) rfl (ev rfl) (by dsimp only [Fr.put,List.set_cons_succ,List.set_cons_zero] <;> rfl) ?_
 refine EvO.nil ?_
 try subst hK
 try change EvC _ _ _ _ _ _
 have hH : Has s0.bs.length S st (.lst .nul 1 ((partsX (ps.take 0)).map partC) :: .box k2 (.mem 0 false [.nul, .nul]) :: []) := hH.nulE 1
 try change EvC _ _ _ _ _ _
 repeat refine EvC.seq ?_
 refine EvC.block ?_
 refine EvC.loop (fun mm fr st => ∃ (i : Nat) (ld : D),fr.clean = ⟨11, [x,ixF_BackWordsLaw fr 1, .ptr k2 0 0, .bool false,ld, .int .i64 (i : Nat),ixF_BackWordsLaw fr 6,ixF_BackWordsLaw fr 7,ixF_BackWordsLaw fr 8,ixF_BackWordsLaw fr 9,ixF_BackWordsLaw fr 10], []⟩ /\ Has s0.bs.length S st [.lst ld 1 ((partsX (ps.take i)).map partC), .box k2 (.mem 0 false [.nul, .nul])] /\ (i + mm = ps.length) /\ (∀ l ∈ partsX (ps.take i),(∀ n ∈ l,NdV n) /\ l.length <= 500)) (ps.length) ?_ ?_
 ·exact ⟨0, .nul,rfl,hH,by omega,fun l hl => (by cases hl)⟩
 rintro mm fr st ⟨i,ld,hfr,hH,hi,hp⟩
 rw [hfr]
 clear hfr
 try generalize ixF_BackWordsLaw fr = ee
 clear fr
 try change EvC _ _ _ _ _ _
 try change EvC _ _ _ _ _ _
 repeat refine EvC.seq ?_
 try generalize hK : SeqQ _ _ _ _ = K
 refine EvC.reg ?_
 refine EvO.mv (.inl rfl) rfl (ev rfl) (put_T rfl _) ?_
 refine EvO.mv (.inl rfl) rfl (ev rfl) (put_T rfl _) ?_
 first | refine EvO.rlen rfl (ev rfl) (Arg.rows (by assumption) hH) rfl (put_T rfl _) ?_ | refine EvO.rlen rfl (ev rfl) (hH.rows (by first | exact at0 | exact at1 | exact at2 | exact at3 | exact at4 | exact at5 | exact at6 | exact at7)) rfl (put_T rfl _) ?_ | refine EvO.slen rfl rfl rfl (put_T rfl _) ?_ | refine EvO.go rfl rfl rfl (put_T rfl _) ?_
 try simp only [List.length_map,List.length_append,List.length_cons,List.length_nil,List.length_set,List.length_replicate,List.length_reverse]
 refine EvO.go rfl rfl rfl (put_T rfl _) ?_
 refine EvO.nil ?_
 try subst hK
 try change EvC _ _ _ _ _ _
 by_cases hlt : i < ps.length
 ·obtain ⟨b,hbb⟩ : ∃ b,ps[i]? = some b := ⟨ps[i]'hlt,List.getElem?_eq_getElem _⟩
  have hr1 := str_get hbb
  have hbl := hb b (List.mem_of_getElem? hbb)
  have hal := hall b (List.mem_of_getElem? hbb)
  have hc2 : decide (((i : Nat) : Int) < ((ps.length : Nat) : Int)) = true := by rw [decide_eq_true_eq]; omega
  try change EvC _ _ _ _ _ _
  repeat refine EvC.seq ?_
  refine EvC.cond (v := true) (by first | assumption | (dsimp only [Fr.ev,Fr.get,nth,Go.V.look]; rw [hc2])) (fun _ => ?_) (fun h => by cases h)
  try change EvC _ _ _ _ _ _
  refine EvC.skip ?_
  try change EvC _ _ _ _ _ _
  try change EvC _ _ _ _ _ _
  repeat refine EvC.seq ?_
  refine EvC.block ?_
  obtain ⟨hev,hv,hll⟩ := parseX_ev (s0 := st) hbl
  have hsu := partsX_succ hbb
  have hpxl : (partsX (ps.take i)).length <= 1048576 := by unfold partsX; rw [List.length_map,List.length_take]; omega
  generalize parseX b = X at hev hv hll hsu hal
  obtain ⟨l,e,w⟩ := X
  dsimp only at hv hll hsu hal
  subst hal
  unfold parseD at hev
  dsimp only at hev
  try change EvC _ _ _ _ _ _
  repeat refine EvC.seq ?_
  try generalize hK : SeqQ _ _ _ _ = K
  refine EvC.reg ?_
  refine EvO.mv (.inl rfl) rfl (ev rfl) (put_T rfl _) ?_
  refine EvO.mv (.inl rfl) rfl (ev rfl) (put_T rfl _) ?_
  first | refine EvO.ridx rfl (ev rfl) (ev rfl) (Arg.rows (by assumption) hH) rfl rfl (by assumption) (fun _ => (put_T rfl _)) (fun p21 hp21 => ?_) | refine EvO.oidx hH rfl (ev rfl) (ev rfl) (by first | exact at0 | exact at1 | exact at2 | exact at3 | exact at4 | exact at5 | exact at6 | exact at7) rfl rfl (by first | exact lt_get (by assumption) | omega | (simp only [List.length_map,List.length_append,List.length_cons,List.length_nil,List.length_set,List.length_replicate] <;> omega)) (fun _ => (put_T rfl _)) (fun p21 hp21 => ?_)
  first | refine EvO.rload rfl (ev rfl) (by assumption) rfl (put_T rfl _) ?_ | refine EvO.oload hH rfl (ev rfl) (by assumption) (by first | exact at0 | exact at1 | exact at2 | exact at3 | exact at4 | exact at5 | exact at6 | exact at7) (by assumption) rfl (put_T rfl _) ?_ | refine EvO.hload hH rfl (ev rfl) (by first | exact at0 | exact at1 | exact at2 | exact at3 | exact at4 | exact at5 | exact at6 | exact at7) rfl (put_T rfl _) ?_
  refine EvO.hcall rfl rfl (hev) (put_T rfl _) ?_
  refine EvO.mv (.inl rfl) rfl (ev rfl) (put_T rfl _) ?_
  refine EvO.go rfl rfl rfl (put_T rfl _) ?_
  refine EvO.go rfl rfl rfl (put_T rfl _) ?_
  refine EvO.go rfl rfl rfl (put_T rfl _) ?_
  refine EvO.mv (.inr rfl) rfl (ev rfl) (by dsimp only [Fr.put,List.set_cons_succ,List.set_cons_zero] <;> rfl) ?_
  refine EvO.mv (.inr rfl) rfl (ev rfl) (by dsimp only [Fr.put,List.set_cons_succ,List.set_cons_zero] <;> rfl) ?_
  refine EvO.mv (.inr rfl) rfl (ev rfl) (by dsimp only [Fr.put,List.set_cons_succ,List.set_cons_zero] <;> rfl) ?_
  refine EvO.nil ?_
  try subst hK
  try change EvC _ _ _ _ _ _
  try change EvC _ _ _ _ _ _
  repeat refine EvC.seq ?_
  try generalize hK : SeqQ _ _ _ _ = K
  refine EvC.reg ?_
  refine EvO.mv (.inl rfl) rfl (ev rfl) (put_T rfl _) ?_
  refine EvO.go rfl rfl rfl (put_T rfl _) ?_
  refine EvO.nil ?_
  try subst hK
  try change EvC _ _ _ _ _ _
  try change EvC _ _ _ _ _ _
  repeat refine EvC.seq ?_
  refine EvC.cond (v := false) (by first | assumption | (dsimp only [Fr.ev,Fr.get,nth,Go.V.look]; rfl)) (fun h => by cases h) (fun _ => ?_)
  try change EvC _ _ _ _ _ _
  refine EvC.skip ?_
  try change EvC _ _ _ _ _ _
  try change EvC _ _ _ _ _ _
  repeat refine EvC.seq ?_
  try generalize hK : SeqQ _ _ _ _ = K
  refine EvC.reg ?_
  refine EvO.mv (.inl rfl) rfl (ev rfl) (put_T rfl _) ?_
  refine EvO.mv (.inl rfl) rfl (ev rfl) (put_T rfl _) ?_
  refine EvO.hlist (s := 1) (vs := [_]) hH rfl rfl rfl rfl rfl (Nat.le_of_ble_eq_true rfl) ⟨rfl,(ev rfl),trivial⟩ rfl (by intro v hv; first | (cases hv; done) | (simp only [List.mem_cons,List.not_mem_nil,or_false] at hv; rcases hv with rfl <;> exact ⟨rfl,rfl⟩)) (fun _ => (put_T rfl _)) (fun k32 st hk32 hH => ?_)
  try dsimp only [List.set_cons_zero,List.set_cons_succ,List.cons_append,List.nil_append,setMany,List.map_cons,List.map_nil,D.cells,Nat.reduceAdd,List.nil_append,partC,compD,Pg.d,Pg.cs,pgV,parseD] at hH
  refine EvO.happend (s := 1) hH rfl (ev rfl) (ev rfl) (by first | exact at0 | exact at1 | exact at2 | exact at3 | exact at4 | exact at5 | exact at6 | exact at7) (by first | exact hH.rows (by first | exact at0 | exact at1 | exact at2 | exact at3 | exact at4 | exact at5 | exact at6 | exact at7) | exact Arg.rows (by assumption) hH) rfl rfl rfl rfl rfl rfl rfl ⟨(Nat.le_of_ble_eq_true rfl),(Nat.le_of_ble_eq_true rfl)⟩ (fun _ => (put_T rfl _)) (by first | omega | (simp only [List.length_append,List.length_cons,List.length_nil,List.length_map,List.length_replicate,List.length_set,List.length_reverse] <;> omega)) (by first | exact .inl hF | exact .inr rfl | exact .inr (by assumption)) (fun x33 st hH => ?_)
  try dsimp only [List.set_cons_zero,List.set_cons_succ,List.cons_append,List.nil_append,setMany,List.map_cons,List.map_nil,D.cells,Nat.reduceAdd,List.nil_append,partC,compD,Pg.d,Pg.cs,pgV,parseD] at hH
  refine EvO.mv (.inr rfl) rfl (ev rfl) (by dsimp only [Fr.put,List.set_cons_succ,List.set_cons_zero] <;> rfl) ?_
  refine EvO.nil ?_
  try subst hK
  try change EvC _ _ _ _ _ _
  have hH := hH.drop 1
  try change EvC _ _ _ _ _ _
  repeat refine EvC.seq ?_
  try generalize hK : SeqQ _ _ _ _ = K
  refine EvC.reg ?_
  refine EvO.mv (.inl rfl) rfl (ev rfl) (put_T rfl _) ?_
  first | refine EvO.addN rfl (ev rfl) (ev rfl) (by omega) (put_T rfl _) ?_ | refine EvO.addS64 rfl (ev rfl) (ev rfl) (by omega) (by omega) (put_T rfl _) ?_ | refine EvO.addS32 rfl (ev rfl) (ev rfl) (by omega) (by omega) (put_T rfl _) ?_ | refine EvO.go rfl rfl rfl (put_T rfl _) ?_
  refine EvO.mv (.inr rfl) rfl (ev rfl) (by dsimp only [Fr.put,List.set_cons_succ,List.set_cons_zero] <;> rfl) ?_
  refine EvO.nil ?_
  try subst hK
  try change EvC _ _ _ _ _ _
  refine ⟨mm - 1,by omega,⟨i + 1,x33,rfl,(by rw [hsu,List.map_append]; exact hH),by omega,?_⟩⟩
  rw [hsu]
  intro l' hl'
  rcases List.mem_append.1 hl' with hl' | hl'
  ·exact hp l' hl'
  ·simp only [List.mem_cons,List.not_mem_nil,or_false] at hl'; subst hl'; exact ⟨hv,hll⟩
 ·have hc2 : decide (((i : Nat) : Int) < ((ps.length : Nat) : Int)) = false := by rw [decide_eq_false_iff_not]; omega
  try change EvC _ _ _ _ _ _
  repeat refine EvC.seq ?_
  refine EvC.cond (v := false) (by first | assumption | (dsimp only [Fr.ev,Fr.get,nth,Go.V.look]; rw [hc2])) (fun h => by cases h) (fun _ => ?_)
  try change EvC _ _ _ _ _ _
  try change EvC _ _ _ _ _ _
  refine EvC.exit ?_
  try change EvC _ _ _ _ _ _
  rw [List.take_of_length_le (by omega)] at hp hH
  obtain ⟨hev,hok,hlen⟩ := comp_parts hp (by unfold partsX; rw [List.length_map]; exact hl) (hH.rows at0)
  obtain ⟨R,hRe⟩ : ∃ R,compileS (partsX ps) = R := ⟨_,rfl⟩
  rw [hRe] at hev hok hlen hce ⊢
  try change EvC _ _ _ _ _ _
  repeat refine EvC.seq ?_
  try generalize hK : SeqQ _ _ _ _ = K
  refine EvC.reg ?_
  refine EvO.mv (.inl rfl) rfl (ev rfl) (put_T rfl _) ?_
  refine EvO.hcall rfl rfl (hev) (put_T rfl _) ?_
  refine EvO.mv (.inl rfl) rfl (ev rfl) (put_T rfl _) ?_
  refine EvO.go rfl rfl rfl (put_T rfl _) ?_
  refine EvO.go rfl rfl rfl (put_T rfl _) ?_
  refine EvO.go rfl rfl rfl (put_T rfl _) ?_
  refine EvO.halloc hH rfl rfl (fun _ => by dsimp only [Fr.put,List.set_cons_succ,List.set_cons_zero] <;> rfl) (fun k9 st hk9 hH => ?_)
  try dsimp only [List.set_cons_zero,List.set_cons_succ,List.cons_append,List.nil_append,setMany,List.map_cons,List.map_nil,D.cells,Nat.reduceAdd,List.nil_append,partC,compD,Pg.d,Pg.cs,pgV,parseD] at hH
  refine EvO.hstoreA hH rfl (ev rfl) (ev rfl) (by first | rfl | exact (SlD.cells (by assumption)).1 | exact hH.ocells (by first | exact at0 | exact at1 | exact at2 | exact at3 | exact at4 | exact at5 | exact at6 | exact at7) | exact hH.dcells (by first | exact at0 | exact at1 | exact at2 | exact at3 | exact at4 | exact at5 | exact at6 | exact at7) | assumption) (by exact rfl) (by first | exact at0 | exact at1 | exact at2 | exact at3 | exact at4 | exact at5 | exact at6 | exact at7) (by exact rfl) (by first | exact .inl hF | exact .inr rfl | exact .inr (by assumption)) (fun st hH => ?_)
  try dsimp only [List.set_cons_zero,List.set_cons_succ,List.cons_append,List.nil_append,setMany,List.map_cons,List.map_nil,D.cells,Nat.reduceAdd,List.nil_append,partC,compD,Pg.d,Pg.cs,pgV,parseD] at hH
  refine EvO.mv (.inr rfl) rfl (ev rfl) (by dsimp only [Fr.put,List.set_cons_succ,List.set_cons_zero] <;> rfl) ?_
  refine EvO.mv (.inr rfl) rfl (ev rfl) (put_T rfl _) ?_
  refine EvO.nil ?_
  try subst hK
  try change EvC _ _ _ _ _ _
  try change EvC _ _ _ _ _ _
  repeat refine EvC.seq ?_
  try generalize hK : SeqQ _ _ _ _ = K
  refine EvC.reg ?_
  first | refine EvO.hloadS (m := 2) hH rfl (ev rfl) (by first | exact at0 | exact at1 | exact at2 | exact at3 | exact at4 | exact at5 | exact at6 | exact at7) (by dsimp only [List.drop_succ_cons,List.drop_zero,List.take_succ_cons,List.take_zero,partC,compD,Pg.d,Pg.cs,pgV,parseD] <;> rfl) rfl rfl (put_T rfl _) ?_ | refine EvO.rload rfl (ev rfl) (by assumption) rfl (put_T rfl _) ?_ | refine EvO.oload hH rfl (ev rfl) (by assumption) (by first | exact at0 | exact at1 | exact at2 | exact at3 | exact at4 | exact at5 | exact at6 | exact at7) (by assumption) rfl (put_T rfl _) ?_
  refine EvO.mv (.inl rfl) rfl (ev rfl) (put_T rfl _) ?_
  refine EvO.go rfl rfl rfl (put_T rfl _) ?_
  refine EvO.hstoreA hH rfl (ev rfl) (ev rfl) (by first | rfl | exact (SlD.cells (by assumption)).1 | exact hH.ocells (by first | exact at0 | exact at1 | exact at2 | exact at3 | exact at4 | exact at5 | exact at6 | exact at7) | exact hH.dcells (by first | exact at0 | exact at1 | exact at2 | exact at3 | exact at4 | exact at5 | exact at6 | exact at7) | assumption) (by exact rfl) (by first | exact at0 | exact at1 | exact at2 | exact at3 | exact at4 | exact at5 | exact at6 | exact at7) (by exact rfl) (by first | exact .inl hF | exact .inr rfl | exact .inr (by assumption)) (fun st hH => ?_)
  try dsimp only [List.set_cons_zero,List.set_cons_succ,List.cons_append,List.nil_append,setMany,List.map_cons,List.map_nil,D.cells,Nat.reduceAdd,List.nil_append,partC,compD,Pg.d,Pg.cs,pgV,parseD] at hH
  refine EvO.mv (.inr rfl) rfl (ev rfl) (by dsimp only [Fr.put,List.set_cons_succ,List.set_cons_zero] <;> rfl) ?_
  refine EvO.nil ?_
  try subst hK
  try change EvC _ _ _ _ _ _
  refine EvC.ret ⟨fun i h => (by cases h),_,_,hH.resCellT rfl at2 rfl rfl,leave_ro (by simp) hSb hH (show _ = some (D.tup [(pgV R.code R.starts).d, .bool (R.e == 0)]) from rfl),by rw [hce]; rfl⟩
theorem idx_str {t : TypeId} (ht : pv.und t = some .string) {s : List UInt8} {i : Nat} {c : UInt8} (h : s[i]? = some c) : indexD pv t (.str s) (.int .i64 (i : Nat)) = some (.int .u8 (c.toNat : Nat)) := by
 unfold indexD
 simp only [ht]
 rw [if_pos (by omega),Int.toNat_natCast,h]; rfl
theorem law {s0 : St} (a : List UInt8) (ha : a.length <= 1048576) (t : List UInt8) (ht : t.length <= 1048576) : Ev pv 3 [.str a, .str t] s0 (.bool true) s0 := by
 suffices hg : ∃ d,Ev pv 3 [.str a, .str t] s0 d s0 /\ d = .bool true by
  obtain ⟨d,h1,rfl⟩ := hg
  exact h1
 refine Ev.mkR rfl fi3 rfl rfl rfl ?_
 dsimp only [List.cons_append,List.nil_append,List.length,Nat.reduceSub,Nat.reduceAdd,List.replicate_succ,List.replicate_zero]
 have hSb : (enterSt .ro s0).bs = s0.bs := rfl
 have hF : (enterSt .ro s0).flr <= s0.bs.length := Nat.le_refl _
 have hH : Has s0.bs.length (enterSt .ro s0) (enterSt .ro s0) [] := Has.start (Nat.le_refl _) (Nat.le_refl _)
 generalize enterSt .ro s0 = S at *
 try change EvC _ _ _ _ _ _
 repeat refine EvC.seq ?_
 try generalize hK : SeqQ _ _ _ _ = K
 refine EvC.reg ?_
 refine EvO.mv (.inr rfl) rfl (ev rfl) (by dsimp only [Fr.put,List.set_cons_succ,List.set_cons_zero] <;> rfl) ?_
 refine EvO.nil ?_
 try subst hK
 try change EvC _ _ _ _ _ _
 try change EvC _ _ _ _ _ _
 repeat refine EvC.seq ?_
 try generalize hK : SeqQ _ _ _ _ = K
 refine EvC.reg ?_
 refine EvO.mv (.inr rfl) rfl (ev rfl) (by dsimp only [Fr.put,List.set_cons_succ,List.set_cons_zero] <;> rfl) ?_
 refine EvO.nil ?_
 try subst hK
 try change EvC _ _ _ _ _ _
 try change EvC _ _ _ _ _ _
 repeat refine EvC.seq ?_
 try generalize hK : SeqQ _ _ _ _ = K
 refine EvC.reg ?_
 refine EvO.mv (.inr rfl) rfl (ev rfl) (by dsimp only [Fr.put,List.set_cons_succ,List.set_cons_zero] <;> rfl) ?_
 refine EvO.nil ?_
 try subst hK
 try change EvC _ _ _ _ _ _
 try change EvC _ _ _ _ _ _
 repeat refine EvC.seq ?_
 refine EvC.block ?_
 refine EvC.loop (fun mm fr st => ∃ (i : Nat) (w : List UInt8),fr.clean = ⟨12, [.str a, .str t,ixF_BackWordsLaw fr 2,ixF_BackWordsLaw fr 3, .bool false, .str w, .int .i64 (i : Nat),ixF_BackWordsLaw fr 7,ixF_BackWordsLaw fr 8,ixF_BackWordsLaw fr 9,ixF_BackWordsLaw fr 10,ixF_BackWordsLaw fr 11], []⟩ /\ Has s0.bs.length S st [] /\ (i + mm = a.length) /\ (Lts w) /\ (w.length <= i) /\ (i <= 10)) (a.length) ?_ ?_
 ·exact ⟨0, [],rfl,hH,by omega,fun c hc => (by cases hc),Nat.le_refl _,by omega⟩
 rintro mm fr st ⟨i,w,hfr,hH,hi,hw,hwl,hi2⟩
 rw [hfr]
 clear hfr
 try generalize ixF_BackWordsLaw fr = ee
 clear fr
 try change EvC _ _ _ _ _ _
 try change EvC _ _ _ _ _ _
 repeat refine EvC.seq ?_
 refine EvC.cutT 19 (.bool (decide (((i : Nat) : Int) < ((a.length : Nat) : Int)) && decide (((i : Nat) : Int) < 10))) [] ?_ (fun ff tmp htmp => ?_)
 ·refine EvO.mv (.inl rfl) rfl (ev rfl) (put_T rfl _) ?_
  refine EvO.mv (.inl rfl) rfl (ev rfl) (put_T rfl _) ?_
  first | refine EvO.rlen rfl (ev rfl) (Arg.rows (by assumption) hH) rfl (put_T rfl _) ?_ | refine EvO.rlen rfl (ev rfl) (hH.rows (by first | exact at0 | exact at1 | exact at2 | exact at3 | exact at4 | exact at5 | exact at6 | exact at7)) rfl (put_T rfl _) ?_ | refine EvO.slen rfl rfl rfl (put_T rfl _) ?_ | refine EvO.go rfl rfl rfl (put_T rfl _) ?_
  try simp only [List.length_map,List.length_append,List.length_cons,List.length_nil,List.length_set,List.length_replicate,List.length_reverse]
  refine EvO.go rfl rfl rfl (put_T rfl _) ?_
  refine EvO.mv (.inl rfl) rfl (ev rfl) (put_T rfl _) ?_
  refine EvO.two 16 rfl (fun hg4 => ?_) (fun hg4 => ?_)
  ·refine EvO.mv (.inl rfl) (wantD_is rfl rfl rfl hg4) (ev rfl) (put_T rfl _) ?_
   refine EvO.go (wantD_is rfl rfl rfl hg4) rfl rfl (put_T rfl _) ?_
   refine EvO.pickT rfl rfl hg4 (put_T rfl _) ?_
   refine EvO.nil (leafT ?_ ?_)
   ·try dsimp only [setW,List.foldl_cons,List.foldl_nil,nth,List.set_cons_zero,List.set_cons_succ]
    all_goals (first | rfl | simp)
   ·try dsimp only [Fr.putO,Fr.put,Fr.clean,Fr.ev,Fr.get,nth,Go.V.look,List.set_cons_succ,List.set_cons_zero,ofVal_int,ofVal_bool,ofVal_str,ofVal_nul,ofVal_pnil,ofVal_nilfn,ofVal_nilif,List.length,List.cons_append,List.nil_append,List.append_nil,Nat.reduceSub,Nat.reduceAdd,List.map,List.map_cons,List.map_nil]
    all_goals (first | rfl | (simp [hg4]; done) | (simp_all; done) | (simp [hg4]; omega) | (simp_all; omega))
  ·refine EvO.skip (wantD_not rfl rfl rfl hg4) (put_T rfl _) ?_
   refine EvO.skip (wantD_not rfl rfl rfl hg4) (put_T rfl _) ?_
   refine EvO.pickF rfl rfl hg4 (put_T rfl _) ?_
   refine EvO.nil (leafT ?_ ?_)
   ·try dsimp only [setW,List.foldl_cons,List.foldl_nil,nth,List.set_cons_zero,List.set_cons_succ]
    all_goals (first | rfl | simp)
   ·try dsimp only [Fr.putO,Fr.put,Fr.clean,Fr.ev,Fr.get,nth,Go.V.look,List.set_cons_succ,List.set_cons_zero,ofVal_int,ofVal_bool,ofVal_str,ofVal_nul,ofVal_pnil,ofVal_nilfn,ofVal_nilif,List.length,List.cons_append,List.nil_append,List.append_nil,Nat.reduceSub,Nat.reduceAdd,List.map,List.map_cons,List.map_nil]
    all_goals (first | rfl | (simp [hg4]; done) | (simp_all; done) | (simp [hg4]; omega) | (simp_all; omega))
 try dsimp only [setW,List.foldl_cons,List.foldl_nil,nth,List.set_cons_zero,List.set_cons_succ]
 try dsimp only [Fr.putO,Fr.put,Fr.clean,Fr.ev,Fr.get,nth,Go.V.look,List.set_cons_succ,List.set_cons_zero,ofVal_int,ofVal_bool,ofVal_str,ofVal_nul,ofVal_pnil,ofVal_nilfn,ofVal_nilif,List.length,List.cons_append,List.nil_append,List.append_nil,Nat.reduceSub,Nat.reduceAdd,List.map,List.map_cons,List.map_nil]
 try change EvC _ _ _ _ _ _
 by_cases hlt : i < a.length /\ i < 10
 ·have hcc : (decide (((i : Nat) : Int) < ((a.length : Nat) : Int)) && decide (((i : Nat) : Int) < 10)) = true := by
   simp only [Bool.and_eq_true,decide_eq_true_eq]; omega
  first | (rw [hcc] at htmp) | (rw [hcc])
  try change EvC _ _ _ _ _ _
  repeat refine EvC.seq ?_
  refine EvC.cond (v := true) (by first | rfl | assumption) (fun _ => ?_) (fun h => by cases h)
  try change EvC _ _ _ _ _ _
  refine EvC.skip ?_
  try change EvC _ _ _ _ _ _
  try change EvC _ _ _ _ _ _
  repeat refine EvC.seq ?_
  refine EvC.block ?_
  obtain ⟨c,hc⟩ : ∃ c,a[i]? = some c := ⟨a[i]'(by omega),List.getElem?_eq_getElem _⟩
  try change EvC _ _ _ _ _ _
  repeat refine EvC.seq ?_
  refine EvC.cutT 31 (.bool (decide (((c.toNat : Nat) : Int) >= 97) && decide (((c.toNat : Nat) : Int) <= 122))) [] ?_ (fun ff tmp htmp => ?_)
  ·refine EvO.mv (.inl rfl) rfl (ev rfl) (put_T rfl _) ?_
   refine EvO.mv (.inl rfl) rfl (ev rfl) (put_T rfl _) ?_
   refine EvO.go (d := .int .u8 (c.toNat : Nat)) (st1 := _) rfl rfl (by exact congrArg (Option.map fun d => (d,_)) (idx_str rfl hc)) (put_T rfl _) ?_
   refine EvO.go rfl rfl rfl (put_T rfl _) ?_
   refine EvO.mv (.inl rfl) rfl (ev rfl) (put_T rfl _) ?_
   refine EvO.two 26 rfl (fun hg4 => ?_) (fun hg4 => ?_)
   ·refine EvO.mv (.inl rfl) (wantD_is rfl rfl rfl hg4) (ev rfl) (put_T rfl _) ?_
    refine EvO.mv (.inl rfl) (wantD_is rfl rfl rfl hg4) (ev rfl) (put_T rfl _) ?_
    refine EvO.go (d := .int .u8 (c.toNat : Nat)) (st1 := _) (wantD_is rfl rfl rfl hg4) rfl (by exact congrArg (Option.map fun d => (d,_)) (idx_str rfl hc)) (put_T rfl _) ?_
    refine EvO.go (wantD_is rfl rfl rfl hg4) rfl rfl (put_T rfl _) ?_
    refine EvO.pickT rfl rfl hg4 (put_T rfl _) ?_
    refine EvO.nil (leafT ?_ ?_)
    ·try dsimp only [setW,List.foldl_cons,List.foldl_nil,nth,List.set_cons_zero,List.set_cons_succ]
     all_goals (first | rfl | simp)
    ·try dsimp only [Fr.putO,Fr.put,Fr.clean,Fr.ev,Fr.get,nth,Go.V.look,List.set_cons_succ,List.set_cons_zero,ofVal_int,ofVal_bool,ofVal_str,ofVal_nul,ofVal_pnil,ofVal_nilfn,ofVal_nilif,List.length,List.cons_append,List.nil_append,List.append_nil,Nat.reduceSub,Nat.reduceAdd,List.map,List.map_cons,List.map_nil]
     all_goals (first | rfl | (simp [hg4]; done) | (simp_all; done) | (simp [hg4]; omega) | (simp_all; omega))
   ·refine EvO.skip (wantD_not rfl rfl rfl hg4) (put_T rfl _) ?_
    refine EvO.skip (wantD_not rfl rfl rfl hg4) (put_T rfl _) ?_
    refine EvO.skip (wantD_not rfl rfl rfl hg4) (put_T rfl _) ?_
    refine EvO.skip (wantD_not rfl rfl rfl hg4) (put_T rfl _) ?_
    refine EvO.pickF rfl rfl hg4 (put_T rfl _) ?_
    refine EvO.nil (leafT ?_ ?_)
    ·try dsimp only [setW,List.foldl_cons,List.foldl_nil,nth,List.set_cons_zero,List.set_cons_succ]
     all_goals (first | rfl | simp)
    ·try dsimp only [Fr.putO,Fr.put,Fr.clean,Fr.ev,Fr.get,nth,Go.V.look,List.set_cons_succ,List.set_cons_zero,ofVal_int,ofVal_bool,ofVal_str,ofVal_nul,ofVal_pnil,ofVal_nilfn,ofVal_nilif,List.length,List.cons_append,List.nil_append,List.append_nil,Nat.reduceSub,Nat.reduceAdd,List.map,List.map_cons,List.map_nil]
     all_goals (first | rfl | (simp [hg4]; done) | (simp_all; done) | (simp [hg4]; omega) | (simp_all; omega))
  try dsimp only [setW,List.foldl_cons,List.foldl_nil,nth,List.set_cons_zero,List.set_cons_succ]
  try dsimp only [Fr.putO,Fr.put,Fr.clean,Fr.ev,Fr.get,nth,Go.V.look,List.set_cons_succ,List.set_cons_zero,ofVal_int,ofVal_bool,ofVal_str,ofVal_nul,ofVal_pnil,ofVal_nilfn,ofVal_nilif,List.length,List.cons_append,List.nil_append,List.append_nil,Nat.reduceSub,Nat.reduceAdd,List.map,List.map_cons,List.map_nil]
  try change EvC _ _ _ _ _ _
  by_cases hl : 97 <= c.toNat /\ c.toNat <= 122
  ·have hcc : (decide (((c.toNat : Nat) : Int) >= 97) && decide (((c.toNat : Nat) : Int) <= 122)) = true := by
    simp only [Bool.and_eq_true,decide_eq_true_eq]; omega
   first | (rw [hcc] at htmp) | (rw [hcc])
   try change EvC _ _ _ _ _ _
   repeat refine EvC.seq ?_
   refine EvC.cond (v := true) (by first | rfl | assumption) (fun _ => ?_) (fun h => by cases h)
   try change EvC _ _ _ _ _ _
   have hpart : (a.take (i + 1)).drop i = [c] := by
    rw [List.take_add_one,hc,List.drop_append_of_le_length (by rw [List.length_take]; omega),List.drop_eq_nil_of_le (by rw [List.length_take]; omega)]; rfl
   try change EvC _ _ _ _ _ _
   repeat refine EvC.seq ?_
   try generalize hK : SeqQ _ _ _ _ = K
   refine EvC.reg ?_
   refine EvO.mv (.inl rfl) rfl (ev rfl) (put_T rfl _) ?_
   refine EvO.mv (.inl rfl) rfl (ev rfl) (put_T rfl _) ?_
   refine EvO.mv (.inl rfl) rfl (ev rfl) (put_T rfl _) ?_
   refine EvO.mv (.inl rfl) rfl (ev rfl) (put_T rfl _) ?_
   refine EvO.addZ (z := ((i + 1 : Nat) : Int)) rfl (ev rfl) (ev rfl) (by (try simp only [List.length_reverse,List.length_cons,List.length_nil,List.length_append,List.length_map,List.length_set]); first | (rw [wrap_i64 (by omega) (by omega)] <;> omega) | (rw [wrap_i32 (by omega) (by omega)] <;> omega)) (put_T rfl _) ?_
   refine EvO.go (d := .str [c]) (st1 := _) rfl rfl (by show Option.map _ (Option.map _ (boundsD a.length (some (.int .i64 ((i : Nat) : Int))) (some (.int .i64 ((i + 1 : Nat) : Int))))) = _; rw [bounds_both (by omega)]; show some (D.str ((a.take (i + 1)).drop i),_) = _; rw [hpart]) (put_T rfl _) ?_
   refine EvO.addS (x := w) (y := [c]) rfl rfl (ev rfl) (ev rfl) (by simp <;> omega) ?_
   refine EvO.mv (.inr rfl) rfl (ev rfl) (by dsimp only [Fr.put,List.set_cons_succ,List.set_cons_zero] <;> rfl) ?_
   refine EvO.nil ?_
   try subst hK
   try change EvC _ _ _ _ _ _
   try change EvC _ _ _ _ _ _
   repeat refine EvC.seq ?_
   try generalize hK : SeqQ _ _ _ _ = K
   refine EvC.reg ?_
   refine EvO.mv (.inl rfl) rfl (ev rfl) (put_T rfl _) ?_
   refine EvO.addZ (z := ((i + 1 : Nat) : Int)) rfl (ev rfl) (ev rfl) (by (try simp only [List.length_reverse,List.length_cons,List.length_nil,List.length_append,List.length_map,List.length_set]); first | (rw [wrap_i64 (by omega) (by omega)] <;> omega) | (rw [wrap_i32 (by omega) (by omega)] <;> omega)) (put_T rfl _) ?_
   refine EvO.mv (.inr rfl) rfl (ev rfl) (by dsimp only [Fr.put,List.set_cons_succ,List.set_cons_zero] <;> rfl) ?_
   refine EvO.nil ?_
   try subst hK
   try change EvC _ _ _ _ _ _
   refine ⟨mm - 1,by omega,⟨i + 1,w ++ [c],rfl,hH,by omega,?_,(by simp; omega),by omega⟩⟩
   intro x hx
   rcases List.mem_append.1 hx with hx | hx
   ·exact hw x hx
   ·simp only [List.mem_cons,List.not_mem_nil,or_false] at hx; subst hx; exact hl
  ·have hcc : (decide (((c.toNat : Nat) : Int) >= 97) && decide (((c.toNat : Nat) : Int) <= 122)) = false := by
    cases hq : (decide (((c.toNat : Nat) : Int) >= 97) && decide (((c.toNat : Nat) : Int) <= 122)) with
    | false => rfl
    | true => simp only [Bool.and_eq_true,decide_eq_true_eq] at hq; omega
   first | (rw [hcc] at htmp) | (rw [hcc])
   try change EvC _ _ _ _ _ _
   repeat refine EvC.seq ?_
   refine EvC.cond (v := false) (by first | rfl | assumption) (fun h => by cases h) (fun _ => ?_)
   try change EvC _ _ _ _ _ _
   refine EvC.skip ?_
   try change EvC _ _ _ _ _ _
   try change EvC _ _ _ _ _ _
   repeat refine EvC.seq ?_
   try generalize hK : SeqQ _ _ _ _ = K
   refine EvC.reg ?_
   refine EvO.mv (.inl rfl) rfl (ev rfl) (put_T rfl _) ?_
   refine EvO.addZ (z := ((i + 1 : Nat) : Int)) rfl (ev rfl) (ev rfl) (by (try simp only [List.length_reverse,List.length_cons,List.length_nil,List.length_append,List.length_map,List.length_set]); first | (rw [wrap_i64 (by omega) (by omega)] <;> omega) | (rw [wrap_i32 (by omega) (by omega)] <;> omega)) (put_T rfl _) ?_
   refine EvO.mv (.inr rfl) rfl (ev rfl) (by dsimp only [Fr.put,List.set_cons_succ,List.set_cons_zero] <;> rfl) ?_
   refine EvO.nil ?_
   try subst hK
   try change EvC _ _ _ _ _ _
   exact ⟨mm - 1,by omega,⟨i + 1,w,rfl,hH,by omega,hw,(by omega),by omega⟩⟩
 have hcc : (decide (((i : Nat) : Int) < ((a.length : Nat) : Int)) && decide (((i : Nat) : Int) < 10)) = false := by
  cases hq : (decide (((i : Nat) : Int) < ((a.length : Nat) : Int)) && decide (((i : Nat) : Int) < 10)) with
  | false => rfl
  | true => simp only [Bool.and_eq_true,decide_eq_true_eq] at hq; omega
 first | (rw [hcc] at htmp) | (rw [hcc])
 try change EvC _ _ _ _ _ _
 repeat refine EvC.seq ?_
 refine EvC.cond (v := false) (by first | rfl | assumption) (fun h => by cases h) (fun _ => ?_)
 try change EvC _ _ _ _ _ _
 try change EvC _ _ _ _ _ _
 refine EvC.exit ?_
 try change EvC _ _ _ _ _ _
 try change EvC _ _ _ _ _ _
 repeat refine EvC.seq ?_
 try generalize hK : SeqQ _ _ _ _ = K
 refine EvC.reg ?_
 refine EvO.mv (.inl rfl) rfl (ev rfl) (put_T rfl _) ?_
 refine EvO.hcall rfl rfl (head_ev t) (put_T rfl _) ?_
 refine EvO.mv (.inr rfl) rfl (ev rfl) (by dsimp only [Fr.put,List.set_cons_succ,List.set_cons_zero] <;> rfl) ?_
 refine EvO.nil ?_
 try subst hK
 try change EvC _ _ _ _ _ _
 obtain ⟨c,hcb⟩ : ∃ c,t.take 150 = c := ⟨_,rfl⟩
 have hcl : c.length <= 150 := by rw [<- hcb,List.length_take]; omega
 rw [hcb]
 clear hcb
 have hwl : w.length <= 10 := by omega
 have hpw := parse_word hw hwl
 have hpx : partsX [w] = [wN w] := by show [(parseX w).1] = _; rw [hpw]
 have hcw := comp_word hw hwl
 have hmk : ∀ st x,V.Rows st 1 x ([w].map strC) -> Ev pv 5 [x] st (.tup [.agg [(pgV (wC w) [0]).cd,(pgV (wC w) [0]).sd], .bool true]) st := fun st x h => by
  have h1 := made14y_ev (s0 := st) (x := x) (ps := [w]) h (by simp) (fun b hb => by simp only [List.mem_cons,List.not_mem_nil,or_false] at hb; subst hb; omega) (fun b hb => by simp only [List.mem_cons,List.not_mem_nil,or_false] at hb; subst hb; rw [hpw]) (by rw [hpx,hcw])
  rw [hpx,hcw] at h1
  exact h1
 have hR : RightQ (pgV (wC w) [0]) := by
  have h1 := compile_right (ls := [wN w]) (by simp) (by rw [hcw]; simp [wC]; omega)
  rw [hcw] at h1
  exact h1
 have hpk : (pgV (wC w) [0]).ok /\ (pgV (wC w) [0]).code.length <= 400 := by
  have h1 := compileS_ok (ls := [wN w]) (fun l hl n hn => by
   simp only [List.mem_cons,List.not_mem_nil,or_false] at hl; subst hl
   have hv := (parseX_ev (s0 := s0) (b := w) (by omega)).2.1
   rw [hpw] at hv
   exact (hv n hn).2.1)
  rw [hcw] at h1
  exact h1
 obtain ⟨hal,_⟩ := allS_len _ c (Nat.le_refl _)
 have hf := fun st => find3_ev (s0 := st) hpk.1 0 (b := c) (by omega) (Nat.le_trans (Nat.mul_le_mul (show (allS c).length + 1 <= 151 by omega) hpk.2) (by decide))
 have hcp := hpk.1.c
 have hsp := hpk.1.s
 have hF := word_find (b := c) hw hR
 generalize progFind (pgV (wC w) [0]) 0 c = X at hf hF
 generalize pgV (wC w) [0] = p at *
 have hix : ∀ st,Ev pv 7 [.str c, .str w] st (.int .i64 (Lib.index c w)) st := fun st => Ev.prim rfl (if_pos (show c.length < 4294967281 by omega))
 rcases hF with ⟨rfl,hne,hx⟩ | ⟨f,A,rfl,h0,hf0,hf1,hA⟩
 ·change ∀ st,Ev pv _ _ st (.tup [.agg (capsC zeroCaps), .bool false]) st at hf
  rw [hx] at hix
  try change EvC _ _ _ _ _ _
  repeat refine EvC.seq ?_
  try generalize hK : SeqQ _ _ _ _ = K
  refine EvC.reg ?_
  refine EvO.mv (.inl rfl) rfl (ev rfl) (put_T rfl _) ?_
  refine EvO.hlist (s := 1) (vs := [_]) hH rfl rfl rfl rfl rfl (Nat.le_of_ble_eq_true rfl) ⟨rfl,(ev rfl),trivial⟩ rfl (by intro v hv; first | (cases hv; done) | (simp only [List.mem_cons,List.not_mem_nil,or_false] at hv; rcases hv with rfl <;> exact ⟨rfl,rfl⟩)) (fun _ => (put_T rfl _)) (fun k43 st hk43 hH => ?_)
  try dsimp only [List.set_cons_zero,List.set_cons_succ,List.cons_append,List.nil_append,setMany,List.map_cons,List.map_nil,D.cells,Nat.reduceAdd,List.nil_append,capsC] at hH
  refine EvO.hcall rfl rfl ((hmk _ _ (hH.rows at0))) (put_T rfl _) ?_
  refine EvO.mv (.inl rfl) rfl (ev rfl) (put_T rfl _) ?_
  refine EvO.go rfl rfl rfl (put_T rfl _) ?_
  refine EvO.go rfl rfl rfl (put_T rfl _) ?_
  refine EvO.halloc hH rfl rfl (fun _ => by dsimp only [Fr.put,List.set_cons_succ,List.set_cons_zero] <;> rfl) (fun k7 st hk7 hH => ?_)
  try dsimp only [List.set_cons_zero,List.set_cons_succ,List.cons_append,List.nil_append,setMany,List.map_cons,List.map_nil,D.cells,Nat.reduceAdd,List.nil_append,capsC] at hH
  refine EvO.hstoreA hH rfl (ev rfl) (ev rfl) (by first | rfl | exact (SlD.cells (by assumption)).1 | exact hH.ocells (by first | exact at0 | exact at1 | exact at2 | exact at3 | exact at4 | exact at5 | exact at6 | exact at7) | exact hH.dcells (by first | exact at0 | exact at1 | exact at2 | exact at3 | exact at4 | exact at5 | exact at6 | exact at7) | assumption) (by exact rfl) (by first | exact at0 | exact at1 | exact at2 | exact at3 | exact at4 | exact at5 | exact at6 | exact at7) (by exact rfl) (by first | exact .inl hF | exact .inr rfl | exact .inr (by assumption)) (fun st hH => ?_)
  try dsimp only [List.set_cons_zero,List.set_cons_succ,List.cons_append,List.nil_append,setMany,List.map_cons,List.map_nil,D.cells,Nat.reduceAdd,List.nil_append,capsC] at hH
  refine EvO.mv (.inr rfl) rfl (ev rfl) (by dsimp only [Fr.put,List.set_cons_succ,List.set_cons_zero] <;> rfl) ?_
  refine EvO.nil ?_
  try subst hK
  try change EvC _ _ _ _ _ _
  try change EvC _ _ _ _ _ _
  repeat refine EvC.seq ?_
  try generalize hK : SeqQ _ _ _ _ = K
  refine EvC.reg ?_
  first | refine EvO.hloadS (m := 2) hH rfl (ev rfl) (by first | exact at0 | exact at1 | exact at2 | exact at3 | exact at4 | exact at5 | exact at6 | exact at7) (by dsimp only [List.drop_succ_cons,List.drop_zero,List.take_succ_cons,List.take_zero,capsC] <;> rfl) rfl rfl (put_T rfl _) ?_ | refine EvO.rload rfl (ev rfl) (by assumption) rfl (put_T rfl _) ?_ | refine EvO.oload hH rfl (ev rfl) (by assumption) (by first | exact at0 | exact at1 | exact at2 | exact at3 | exact at4 | exact at5 | exact at6 | exact at7) (by assumption) rfl (put_T rfl _) ?_
  refine EvO.mv (.inl rfl) rfl (ev rfl) (put_T rfl _) ?_
  refine EvO.hcall rfl rfl ((hf _)) (put_T rfl _) ?_
  refine EvO.mv (.inl rfl) rfl (ev rfl) (put_T rfl _) ?_
  refine EvO.go rfl rfl rfl (put_T rfl _) ?_
  refine EvO.go rfl rfl rfl (put_T rfl _) ?_
  refine EvO.halloc hH rfl rfl (fun _ => by dsimp only [Fr.put,List.set_cons_succ,List.set_cons_zero] <;> rfl) (fun k9 st hk9 hH => ?_)
  try dsimp only [List.set_cons_zero,List.set_cons_succ,List.cons_append,List.nil_append,setMany,List.map_cons,List.map_nil,D.cells,Nat.reduceAdd,List.nil_append,capsC] at hH
  refine EvO.hstoreA hH rfl (ev rfl) (ev rfl) (by first | rfl | exact (SlD.cells (by assumption)).1 | exact hH.ocells (by first | exact at0 | exact at1 | exact at2 | exact at3 | exact at4 | exact at5 | exact at6 | exact at7) | exact hH.dcells (by first | exact at0 | exact at1 | exact at2 | exact at3 | exact at4 | exact at5 | exact at6 | exact at7) | assumption) (by exact rfl) (by first | exact at0 | exact at1 | exact at2 | exact at3 | exact at4 | exact at5 | exact at6 | exact at7) (by exact rfl) (by first | exact .inl hF | exact .inr rfl | exact .inr (by assumption)) (fun st hH => ?_)
  try dsimp only [List.set_cons_zero,List.set_cons_succ,List.cons_append,List.nil_append,setMany,List.map_cons,List.map_nil,D.cells,Nat.reduceAdd,List.nil_append,capsC] at hH
  refine EvO.mv (.inr rfl) rfl (ev rfl) (by dsimp only [Fr.put,List.set_cons_succ,List.set_cons_zero] <;> rfl) ?_
  refine EvO.nil ?_
  try subst hK
  try change EvC _ _ _ _ _ _
  try change EvC _ _ _ _ _ _
  repeat refine EvC.seq ?_
  try generalize hK : SeqQ _ _ _ _ = K
  refine EvC.reg ?_
  refine EvO.mv (.inl rfl) rfl (ev rfl) (put_T rfl _) ?_
  refine EvO.mv (.inl rfl) rfl (ev rfl) (put_T rfl _) ?_
  refine EvO.hcall rfl rfl ((hix _)) (put_T rfl _) ?_
  refine EvO.mv (.inr rfl) rfl (ev rfl) (by dsimp only [Fr.put,List.set_cons_succ,List.set_cons_zero] <;> rfl) ?_
  refine EvO.nil ?_
  try subst hK
  try change EvC _ _ _ _ _ _
  try change EvC _ _ _ _ _ _
  repeat refine EvC.seq ?_
  try generalize hK : SeqQ _ _ _ _ = K
  refine EvC.reg ?_
  refine EvO.mv (.inl rfl) rfl (ev rfl) (put_T rfl _) ?_
  refine EvO.go rfl rfl rfl (put_T rfl _) ?_
  refine EvO.nil ?_
  try subst hK
  try change EvC _ _ _ _ _ _
  have hcc : (w == []) = false := by simpa using hne
  try change EvC _ _ _ _ _ _
  repeat refine EvC.seq ?_
  refine EvC.cond (v := false) (by first | assumption | (dsimp only [Fr.ev,Fr.get,nth,Go.V.look]; rw [hcc])) (fun h => by cases h) (fun _ => ?_)
  try change EvC _ _ _ _ _ _
  refine EvC.skip ?_
  try change EvC _ _ _ _ _ _
  try change EvC _ _ _ _ _ _
  repeat refine EvC.seq ?_
  refine EvC.cutL 4 (.bool true) [] ?_ (fun ff tmp => ?_)
  ·refine EvO.mv (.inl rfl) rfl (ev rfl) (put_T rfl _) ?_
   refine EvO.mv (.inl rfl) rfl (ev rfl) (put_T rfl _) ?_
   refine EvO.two 59 rfl (fun hg1 => ?_) (fun hg1 => ?_)
   ·refine EvO.mv (.inl rfl) (wantD_is rfl rfl rfl hg1) (ev rfl) (put_T rfl _) ?_
    refine EvO.mv (.inl rfl) (wantD_is rfl rfl rfl hg1) (ev rfl) (put_T rfl _) ?_
    refine EvO.go (wantD_is rfl rfl rfl hg1) rfl rfl (put_T rfl _) ?_
    refine EvO.go (wantD_is rfl rfl rfl hg1) rfl rfl (put_T rfl _) ?_
    refine EvO.pickT rfl rfl hg1 (put_T rfl _) ?_
    refine EvO.mv (.inl rfl) rfl (ev rfl) (put_T rfl _) ?_
    refine EvO.two 65 rfl (fun hg7 => ?_) (fun hg7 => ?_)
    ·refine EvO.mv (.inl rfl) (wantD_is rfl rfl rfl hg7) (ev rfl) (put_T rfl _) ?_
     refine EvO.go (wantD_is rfl rfl rfl hg7) rfl rfl (put_T rfl _) ?_
     refine EvO.mv (.inl rfl) (wantD_is rfl rfl rfl hg7) (ev rfl) (put_T rfl _) ?_
     refine EvO.two 68 rfl (fun hg10 => ?_) (fun hg10 => ?_)
     ·refine EvO.skip (wantD_not rfl rfl rfl hg10) (put_T rfl _) ?_
      refine EvO.skip (wantD_not rfl rfl rfl hg10) (put_T rfl _) ?_
      refine EvO.skip (wantD_not rfl rfl rfl hg10) (put_T rfl _) ?_
      refine EvO.skip (wantD_not rfl rfl rfl hg10) (put_T rfl _) ?_
      refine EvO.skip (wantD_not rfl rfl rfl hg10) (put_T rfl _) ?_
      refine EvO.skip rfl (put_T rfl _) ?_
      refine EvO.skip rfl (put_T rfl _) ?_
      refine EvO.skip rfl (put_T rfl _) ?_
      refine EvO.skip rfl (put_T rfl _) ?_
      refine EvO.skip rfl (put_T rfl _) ?_
      refine EvO.skip rfl (put_T rfl _) ?_
      refine EvO.skip rfl (put_T rfl _) ?_
      refine EvO.skip (wantD_not rfl rfl rfl hg10) (put_T rfl _) ?_
      refine EvO.pickT (wantD_is rfl rfl rfl hg7) rfl hg10 (put_T rfl _) ?_
      refine EvO.pickT rfl rfl hg7 (put_T rfl _) ?_
      refine EvO.mv (.inl rfl) rfl (ev rfl) (put_T rfl _) ?_
      refine EvO.hcall rfl rfl (Ev.prim rfl rfl) (put_T rfl _) ?_
      refine EvO.go rfl rfl rfl (put_T rfl _) ?_
      refine EvO.mv (.inr rfl) rfl (ev rfl) (by dsimp only [Fr.put,List.set_cons_succ,List.set_cons_zero] <;> rfl) ?_
      refine EvO.nil (leafL ?_)
      try dsimp only [setW,List.foldl_cons,List.foldl_nil,nth,List.set_cons_zero,List.set_cons_succ]
      try dsimp only [Fr.putO,Fr.put,Fr.clean,Fr.ev,Fr.get,nth,Go.V.look,List.set_cons_succ,List.set_cons_zero,ofVal_int,ofVal_bool,ofVal_str,ofVal_nul,ofVal_pnil,ofVal_nilfn,ofVal_nilif,List.length,List.cons_append,List.nil_append,List.append_nil,Nat.reduceSub,Nat.reduceAdd,List.map,List.map_cons,List.map_nil]
      all_goals (first | rfl | (simp [hg1,hg7,hg10]; done) | (simp_all; done) | (simp [hg1,hg7,hg10]; omega) | (simp_all; omega))
     ·refine EvO.go (d := .ptr k9 0 0) (st1 := _) (wantD_is rfl rfl rfl hg10) rfl rfl (put_T rfl _) ?_
      refine EvO.hload (d := .int .i64 (zeroCaps 0)) hH (wantD_is rfl rfl rfl hg10) rfl at0 rfl (put_T rfl _) ?_
      refine EvO.mv (.inl rfl) (wantD_is rfl rfl rfl hg10) (ev rfl) (put_T rfl _) ?_
      refine EvO.go (wantD_is rfl rfl rfl hg10) rfl rfl (put_T rfl _) ?_
      refine EvO.mv (.inl rfl) (wantD_is rfl rfl rfl hg10) (ev rfl) (put_T rfl _) ?_
      refine EvO.two 73 rfl (fun hg15 => ?_) (fun hg15 => ?_)
      ·refine EvO.go (d := .ptr k9 0 1) (st1 := _) (wantD_is rfl rfl rfl hg15) rfl rfl (put_T rfl _) ?_
       refine EvO.hload (d := .int .i64 (zeroCaps 1)) hH (wantD_is rfl rfl rfl hg15) rfl at0 rfl (put_T rfl _) ?_
       refine EvO.mv (.inl rfl) (wantD_is rfl rfl rfl hg15) (ev rfl) (put_T rfl _) ?_
       refine EvO.mv (.inl rfl) (wantD_is rfl rfl rfl hg15) (ev rfl) (put_T rfl _) ?_
       first | refine EvO.rlen (wantD_is rfl rfl rfl hg15) (ev rfl) (Arg.rows (by assumption) hH) rfl (put_T rfl _) ?_ | refine EvO.rlen (wantD_is rfl rfl rfl hg15) (ev rfl) (hH.rows (by first | exact at0 | exact at1 | exact at2 | exact at3 | exact at4 | exact at5 | exact at6 | exact at7)) rfl (put_T rfl _) ?_ | refine EvO.slen (wantD_is rfl rfl rfl hg15) rfl rfl (put_T rfl _) ?_ | refine EvO.go (wantD_is rfl rfl rfl hg15) rfl rfl (put_T rfl _) ?_
       try simp only [List.length_map,List.length_append,List.length_cons,List.length_nil,List.length_set,List.length_replicate,List.length_reverse]
       refine EvO.addZ (z := ((-1 : Int) + (w.length : Nat))) (wantD_is rfl rfl rfl hg15) (ev rfl) (ev rfl) (by (try simp only [List.length_reverse,List.length_cons,List.length_nil,List.length_append,List.length_map,List.length_set]); first | (rw [wrap_i64 (by omega) (by omega)] <;> omega) | (rw [wrap_i32 (by omega) (by omega)] <;> omega)) (put_T rfl _) ?_
       refine EvO.go (wantD_is rfl rfl rfl hg15) rfl rfl (put_T rfl _) ?_
       refine EvO.pickT (wantD_is rfl rfl rfl hg10) rfl hg15 (put_T rfl _) ?_
       refine EvO.pickF (wantD_is rfl rfl rfl hg7) rfl hg10 (put_T rfl _) ?_
       refine EvO.pickT rfl rfl hg7 (put_T rfl _) ?_
       refine EvO.mv (.inl rfl) rfl (ev rfl) (put_T rfl _) ?_
       refine EvO.two 84 rfl (fun hg26 => ?_) (fun hg26 => ?_)
       ·refine EvO.hcall (wantD_is rfl rfl rfl hg26) rfl (Ev.prim rfl rfl) (put_T rfl _) ?_
        refine EvO.pickT rfl rfl hg26 (put_T rfl _) ?_
        refine EvO.mv (.inr rfl) rfl (ev rfl) (by dsimp only [Fr.put,List.set_cons_succ,List.set_cons_zero] <;> rfl) ?_
        refine EvO.nil (leafL ?_)
        try dsimp only [setW,List.foldl_cons,List.foldl_nil,nth,List.set_cons_zero,List.set_cons_succ]
        try dsimp only [Fr.putO,Fr.put,Fr.clean,Fr.ev,Fr.get,nth,Go.V.look,List.set_cons_succ,List.set_cons_zero,ofVal_int,ofVal_bool,ofVal_str,ofVal_nul,ofVal_pnil,ofVal_nilfn,ofVal_nilif,List.length,List.cons_append,List.nil_append,List.append_nil,Nat.reduceSub,Nat.reduceAdd,List.map,List.map_cons,List.map_nil]
        all_goals (first | rfl | (simp [hg1,hg7,hg10,hg15,hg26]; done) | (simp_all; done) | (simp [hg1,hg7,hg10,hg15,hg26]; omega) | (simp_all; omega))
       ·refine EvO.skip (wantD_not rfl rfl rfl hg26) (put_T rfl _) ?_
        refine EvO.pickF rfl rfl hg26 (put_T rfl _) ?_
        refine EvO.mv (.inr rfl) rfl (ev rfl) (by dsimp only [Fr.put,List.set_cons_succ,List.set_cons_zero] <;> rfl) ?_
        refine EvO.nil (leafL ?_)
        try dsimp only [setW,List.foldl_cons,List.foldl_nil,nth,List.set_cons_zero,List.set_cons_succ]
        try dsimp only [Fr.putO,Fr.put,Fr.clean,Fr.ev,Fr.get,nth,Go.V.look,List.set_cons_succ,List.set_cons_zero,ofVal_int,ofVal_bool,ofVal_str,ofVal_nul,ofVal_pnil,ofVal_nilfn,ofVal_nilif,List.length,List.cons_append,List.nil_append,List.append_nil,Nat.reduceSub,Nat.reduceAdd,List.map,List.map_cons,List.map_nil]
        all_goals (first | rfl | (simp [hg1,hg7,hg10,hg15,hg26]; done) | (simp_all; done) | (simp [hg1,hg7,hg10,hg15,hg26]; omega) | (simp_all; omega))
      ·refine EvO.skip (wantD_not rfl rfl rfl hg15) (put_T rfl _) ?_
       refine EvO.skip (wantD_not rfl rfl rfl hg15) (put_T rfl _) ?_
       refine EvO.skip (wantD_not rfl rfl rfl hg15) (put_T rfl _) ?_
       refine EvO.skip (wantD_not rfl rfl rfl hg15) (put_T rfl _) ?_
       refine EvO.skip (wantD_not rfl rfl rfl hg15) (put_T rfl _) ?_
       refine EvO.skip (wantD_not rfl rfl rfl hg15) (put_T rfl _) ?_
       refine EvO.skip (wantD_not rfl rfl rfl hg15) (put_T rfl _) ?_
       refine EvO.pickF (wantD_is rfl rfl rfl hg10) rfl hg15 (put_T rfl _) ?_
       refine EvO.pickF (wantD_is rfl rfl rfl hg7) rfl hg10 (put_T rfl _) ?_
       refine EvO.pickT rfl rfl hg7 (put_T rfl _) ?_
       refine EvO.mv (.inl rfl) rfl (ev rfl) (put_T rfl _) ?_
       refine EvO.skip rfl (put_T rfl _) ?_
       refine EvO.go rfl rfl rfl (put_T rfl _) ?_
       refine EvO.mv (.inr rfl) rfl (ev rfl) (by dsimp only [Fr.put,List.set_cons_succ,List.set_cons_zero] <;> rfl) ?_
       refine EvO.nil (leafL ?_)
       try dsimp only [setW,List.foldl_cons,List.foldl_nil,nth,List.set_cons_zero,List.set_cons_succ]
       try dsimp only [Fr.putO,Fr.put,Fr.clean,Fr.ev,Fr.get,nth,Go.V.look,List.set_cons_succ,List.set_cons_zero,ofVal_int,ofVal_bool,ofVal_str,ofVal_nul,ofVal_pnil,ofVal_nilfn,ofVal_nilif,List.length,List.cons_append,List.nil_append,List.append_nil,Nat.reduceSub,Nat.reduceAdd,List.map,List.map_cons,List.map_nil]
       all_goals (first | rfl | (simp [hg1,hg7,hg10,hg15]; done) | (simp_all; done) | (simp [hg1,hg7,hg10,hg15]; omega) | (simp_all; omega))
    ·refine EvO.skip (wantD_not rfl rfl rfl hg7) (put_T rfl _) ?_
     refine EvO.skip (wantD_not rfl rfl rfl hg7) (put_T rfl _) ?_
     refine EvO.skip (wantD_not rfl rfl rfl hg7) (put_T rfl _) ?_
     refine EvO.skip rfl (put_T rfl _) ?_
     refine EvO.skip rfl (put_T rfl _) ?_
     refine EvO.skip rfl (put_T rfl _) ?_
     refine EvO.skip rfl (put_T rfl _) ?_
     refine EvO.skip rfl (put_T rfl _) ?_
     refine EvO.skip rfl (put_T rfl _) ?_
     refine EvO.skip rfl (put_T rfl _) ?_
     refine EvO.skip rfl (put_T rfl _) ?_
     refine EvO.skip rfl (put_T rfl _) ?_
     refine EvO.skip rfl (put_T rfl _) ?_
     refine EvO.skip rfl (put_T rfl _) ?_
     refine EvO.skip rfl (put_T rfl _) ?_
     refine EvO.skip rfl (put_T rfl _) ?_
     refine EvO.skip (wantD_not rfl rfl rfl hg7) (put_T rfl _) ?_
     refine EvO.pickF rfl rfl hg7 (put_T rfl _) ?_
     refine EvO.mv (.inl rfl) rfl (ev rfl) (put_T rfl _) ?_
     refine EvO.skip rfl (put_T rfl _) ?_
     refine EvO.go rfl rfl rfl (put_T rfl _) ?_
     refine EvO.mv (.inr rfl) rfl (ev rfl) (by dsimp only [Fr.put,List.set_cons_succ,List.set_cons_zero] <;> rfl) ?_
     refine EvO.nil (leafL ?_)
     try dsimp only [setW,List.foldl_cons,List.foldl_nil,nth,List.set_cons_zero,List.set_cons_succ]
     try dsimp only [Fr.putO,Fr.put,Fr.clean,Fr.ev,Fr.get,nth,Go.V.look,List.set_cons_succ,List.set_cons_zero,ofVal_int,ofVal_bool,ofVal_str,ofVal_nul,ofVal_pnil,ofVal_nilfn,ofVal_nilif,List.length,List.cons_append,List.nil_append,List.append_nil,Nat.reduceSub,Nat.reduceAdd,List.map,List.map_cons,List.map_nil]
     all_goals (first | rfl | (simp [hg1,hg7]; done) | (simp_all; done) | (simp [hg1,hg7]; omega) | (simp_all; omega))
   ·refine EvO.skip (wantD_not rfl rfl rfl hg1) (put_T rfl _) ?_
    refine EvO.skip (wantD_not rfl rfl rfl hg1) (put_T rfl _) ?_
    refine EvO.skip (wantD_not rfl rfl rfl hg1) (put_T rfl _) ?_
    refine EvO.skip (wantD_not rfl rfl rfl hg1) (put_T rfl _) ?_
    refine EvO.pickF rfl rfl hg1 (put_T rfl _) ?_
    refine EvO.mv (.inl rfl) rfl (ev rfl) (put_T rfl _) ?_
    refine EvO.skip rfl (put_T rfl _) ?_
    refine EvO.skip rfl (put_T rfl _) ?_
    refine EvO.skip rfl (put_T rfl _) ?_
    refine EvO.skip rfl (put_T rfl _) ?_
    refine EvO.skip rfl (put_T rfl _) ?_
    refine EvO.skip rfl (put_T rfl _) ?_
    refine EvO.skip rfl (put_T rfl _) ?_
    refine EvO.skip rfl (put_T rfl _) ?_
    refine EvO.skip rfl (put_T rfl _) ?_
    refine EvO.skip rfl (put_T rfl _) ?_
    refine EvO.skip rfl (put_T rfl _) ?_
    refine EvO.skip rfl (put_T rfl _) ?_
    refine EvO.skip rfl (put_T rfl _) ?_
    refine EvO.skip rfl (put_T rfl _) ?_
    refine EvO.skip rfl (put_T rfl _) ?_
    refine EvO.skip rfl (put_T rfl _) ?_
    refine EvO.skip rfl (put_T rfl _) ?_
    refine EvO.go rfl rfl rfl (put_T rfl _) ?_
    refine EvO.mv (.inl rfl) rfl (ev rfl) (put_T rfl _) ?_
    refine EvO.skip rfl (put_T rfl _) ?_
    refine EvO.go rfl rfl rfl (put_T rfl _) ?_
    refine EvO.mv (.inr rfl) rfl (ev rfl) (by dsimp only [Fr.put,List.set_cons_succ,List.set_cons_zero] <;> rfl) ?_
    refine EvO.nil (leafL ?_)
    try dsimp only [setW,List.foldl_cons,List.foldl_nil,nth,List.set_cons_zero,List.set_cons_succ]
    try dsimp only [Fr.putO,Fr.put,Fr.clean,Fr.ev,Fr.get,nth,Go.V.look,List.set_cons_succ,List.set_cons_zero,ofVal_int,ofVal_bool,ofVal_str,ofVal_nul,ofVal_pnil,ofVal_nilfn,ofVal_nilif,List.length,List.cons_append,List.nil_append,List.append_nil,Nat.reduceSub,Nat.reduceAdd,List.map,List.map_cons,List.map_nil]
    all_goals (first | rfl | (simp [hg1]; done) | (simp_all; done) | (simp [hg1]; omega) | (simp_all; omega))
  try dsimp only [setW,List.foldl_cons,List.foldl_nil,nth,List.set_cons_zero,List.set_cons_succ]
  try dsimp only [Fr.putO,Fr.put,Fr.clean,Fr.ev,Fr.get,nth,Go.V.look,List.set_cons_succ,List.set_cons_zero,ofVal_int,ofVal_bool,ofVal_str,ofVal_nul,ofVal_pnil,ofVal_nilfn,ofVal_nilif,List.length,List.cons_append,List.nil_append,List.append_nil,Nat.reduceSub,Nat.reduceAdd,List.map,List.map_cons,List.map_nil]
  try change EvC _ _ _ _ _ _
  refine EvC.ret ⟨fun i h => (by cases h),_,_,rfl,leave_ro (by simp) hSb hH (rfl),?_⟩
  rfl
 ·change ∀ st,Ev pv _ _ st (.tup [.agg (capsC f), .bool true]) st at hf
  rw [<- hf0] at h0 hf1 hA
  clear hf0
  try change EvC _ _ _ _ _ _
  repeat refine EvC.seq ?_
  try generalize hK : SeqQ _ _ _ _ = K
  refine EvC.reg ?_
  refine EvO.mv (.inl rfl) rfl (ev rfl) (put_T rfl _) ?_
  refine EvO.hlist (s := 1) (vs := [_]) hH rfl rfl rfl rfl rfl (Nat.le_of_ble_eq_true rfl) ⟨rfl,(ev rfl),trivial⟩ rfl (by intro v hv; first | (cases hv; done) | (simp only [List.mem_cons,List.not_mem_nil,or_false] at hv; rcases hv with rfl <;> exact ⟨rfl,rfl⟩)) (fun _ => (put_T rfl _)) (fun k43 st hk43 hH => ?_)
  try dsimp only [List.set_cons_zero,List.set_cons_succ,List.cons_append,List.nil_append,setMany,List.map_cons,List.map_nil,D.cells,Nat.reduceAdd,List.nil_append,capsC] at hH
  refine EvO.hcall rfl rfl ((hmk _ _ (hH.rows at0))) (put_T rfl _) ?_
  refine EvO.mv (.inl rfl) rfl (ev rfl) (put_T rfl _) ?_
  refine EvO.go rfl rfl rfl (put_T rfl _) ?_
  refine EvO.go rfl rfl rfl (put_T rfl _) ?_
  refine EvO.halloc hH rfl rfl (fun _ => by dsimp only [Fr.put,List.set_cons_succ,List.set_cons_zero] <;> rfl) (fun k7 st hk7 hH => ?_)
  try dsimp only [List.set_cons_zero,List.set_cons_succ,List.cons_append,List.nil_append,setMany,List.map_cons,List.map_nil,D.cells,Nat.reduceAdd,List.nil_append,capsC] at hH
  refine EvO.hstoreA hH rfl (ev rfl) (ev rfl) (by first | rfl | exact (SlD.cells (by assumption)).1 | exact hH.ocells (by first | exact at0 | exact at1 | exact at2 | exact at3 | exact at4 | exact at5 | exact at6 | exact at7) | exact hH.dcells (by first | exact at0 | exact at1 | exact at2 | exact at3 | exact at4 | exact at5 | exact at6 | exact at7) | assumption) (by exact rfl) (by first | exact at0 | exact at1 | exact at2 | exact at3 | exact at4 | exact at5 | exact at6 | exact at7) (by exact rfl) (by first | exact .inl hF | exact .inr rfl | exact .inr (by assumption)) (fun st hH => ?_)
  try dsimp only [List.set_cons_zero,List.set_cons_succ,List.cons_append,List.nil_append,setMany,List.map_cons,List.map_nil,D.cells,Nat.reduceAdd,List.nil_append,capsC] at hH
  refine EvO.mv (.inr rfl) rfl (ev rfl) (by dsimp only [Fr.put,List.set_cons_succ,List.set_cons_zero] <;> rfl) ?_
  refine EvO.nil ?_
  try subst hK
  try change EvC _ _ _ _ _ _
  try change EvC _ _ _ _ _ _
  repeat refine EvC.seq ?_
  try generalize hK : SeqQ _ _ _ _ = K
  refine EvC.reg ?_
  first | refine EvO.hloadS (m := 2) hH rfl (ev rfl) (by first | exact at0 | exact at1 | exact at2 | exact at3 | exact at4 | exact at5 | exact at6 | exact at7) (by dsimp only [List.drop_succ_cons,List.drop_zero,List.take_succ_cons,List.take_zero,capsC] <;> rfl) rfl rfl (put_T rfl _) ?_ | refine EvO.rload rfl (ev rfl) (by assumption) rfl (put_T rfl _) ?_ | refine EvO.oload hH rfl (ev rfl) (by assumption) (by first | exact at0 | exact at1 | exact at2 | exact at3 | exact at4 | exact at5 | exact at6 | exact at7) (by assumption) rfl (put_T rfl _) ?_
  refine EvO.mv (.inl rfl) rfl (ev rfl) (put_T rfl _) ?_
  refine EvO.hcall rfl rfl ((hf _)) (put_T rfl _) ?_
  refine EvO.mv (.inl rfl) rfl (ev rfl) (put_T rfl _) ?_
  refine EvO.go rfl rfl rfl (put_T rfl _) ?_
  refine EvO.go rfl rfl rfl (put_T rfl _) ?_
  refine EvO.halloc hH rfl rfl (fun _ => by dsimp only [Fr.put,List.set_cons_succ,List.set_cons_zero] <;> rfl) (fun k9 st hk9 hH => ?_)
  try dsimp only [List.set_cons_zero,List.set_cons_succ,List.cons_append,List.nil_append,setMany,List.map_cons,List.map_nil,D.cells,Nat.reduceAdd,List.nil_append,capsC] at hH
  refine EvO.hstoreA hH rfl (ev rfl) (ev rfl) (by first | rfl | exact (SlD.cells (by assumption)).1 | exact hH.ocells (by first | exact at0 | exact at1 | exact at2 | exact at3 | exact at4 | exact at5 | exact at6 | exact at7) | exact hH.dcells (by first | exact at0 | exact at1 | exact at2 | exact at3 | exact at4 | exact at5 | exact at6 | exact at7) | assumption) (by exact rfl) (by first | exact at0 | exact at1 | exact at2 | exact at3 | exact at4 | exact at5 | exact at6 | exact at7) (by exact rfl) (by first | exact .inl hF | exact .inr rfl | exact .inr (by assumption)) (fun st hH => ?_)
  try dsimp only [List.set_cons_zero,List.set_cons_succ,List.cons_append,List.nil_append,setMany,List.map_cons,List.map_nil,D.cells,Nat.reduceAdd,List.nil_append,capsC] at hH
  refine EvO.mv (.inr rfl) rfl (ev rfl) (by dsimp only [Fr.put,List.set_cons_succ,List.set_cons_zero] <;> rfl) ?_
  refine EvO.nil ?_
  try subst hK
  try change EvC _ _ _ _ _ _
  try change EvC _ _ _ _ _ _
  repeat refine EvC.seq ?_
  try generalize hK : SeqQ _ _ _ _ = K
  refine EvC.reg ?_
  refine EvO.mv (.inl rfl) rfl (ev rfl) (put_T rfl _) ?_
  refine EvO.mv (.inl rfl) rfl (ev rfl) (put_T rfl _) ?_
  refine EvO.hcall rfl rfl ((hix _)) (put_T rfl _) ?_
  refine EvO.mv (.inr rfl) rfl (ev rfl) (by dsimp only [Fr.put,List.set_cons_succ,List.set_cons_zero] <;> rfl) ?_
  refine EvO.nil ?_
  try subst hK
  try change EvC _ _ _ _ _ _
  try change EvC _ _ _ _ _ _
  repeat refine EvC.seq ?_
  try generalize hK : SeqQ _ _ _ _ = K
  refine EvC.reg ?_
  refine EvO.mv (.inl rfl) rfl (ev rfl) (put_T rfl _) ?_
  refine EvO.go rfl rfl rfl (put_T rfl _) ?_
  refine EvO.nil ?_
  try subst hK
  try change EvC _ _ _ _ _ _
  rcases hA with ⟨rfl,hA⟩ | ⟨hne,hA⟩
  ·try change EvC _ _ _ _ _ _
   repeat refine EvC.seq ?_
   refine EvC.cond (v := true) (by first | assumption | (dsimp only [Fr.ev,Fr.get,nth,Go.V.look]; rfl)) (fun _ => ?_) (fun h => by cases h)
   try change EvC _ _ _ _ _ _
   try change EvC _ _ _ _ _ _
   repeat refine EvC.seq ?_
   try generalize hK : SeqQ _ _ _ _ = K
   refine EvC.reg ?_
   refine EvO.mv (.inr rfl) rfl (ev rfl) (by dsimp only [Fr.put,List.set_cons_succ,List.set_cons_zero] <;> rfl) ?_
   refine EvO.nil ?_
   try subst hK
   try change EvC _ _ _ _ _ _
   have hf1 : f 1 = 0 := by rw [hf1,hA]; rfl
   try change EvC _ _ _ _ _ _
   repeat refine EvC.seq ?_
   refine EvC.cutL 4 (.bool true) [] ?_ (fun ff tmp => ?_)
   ·refine EvO.mv (.inl rfl) rfl (ev rfl) (put_T rfl _) ?_
    refine EvO.mv (.inl rfl) rfl (ev rfl) (put_T rfl _) ?_
    refine EvO.two 59 rfl (fun hg1 => ?_) (fun hg1 => ?_)
    ·refine EvO.mv (.inl rfl) (wantD_is rfl rfl rfl hg1) (ev rfl) (put_T rfl _) ?_
     refine EvO.mv (.inl rfl) (wantD_is rfl rfl rfl hg1) (ev rfl) (put_T rfl _) ?_
     refine EvO.go (wantD_is rfl rfl rfl hg1) rfl rfl (put_T rfl _) ?_
     refine EvO.go (wantD_is rfl rfl rfl hg1) rfl rfl (put_T rfl _) ?_
     refine EvO.pickT rfl rfl hg1 (put_T rfl _) ?_
     refine EvO.mv (.inl rfl) rfl (ev rfl) (put_T rfl _) ?_
     refine EvO.two 65 rfl (fun hg7 => ?_) (fun hg7 => ?_)
     ·refine EvO.mv (.inl rfl) (wantD_is rfl rfl rfl hg7) (ev rfl) (put_T rfl _) ?_
      refine EvO.go (wantD_is rfl rfl rfl hg7) rfl rfl (put_T rfl _) ?_
      refine EvO.mv (.inl rfl) (wantD_is rfl rfl rfl hg7) (ev rfl) (put_T rfl _) ?_
      refine EvO.two 68 rfl (fun hg10 => ?_) (fun hg10 => ?_)
      ·refine EvO.skip (wantD_not rfl rfl rfl hg10) (put_T rfl _) ?_
       refine EvO.skip (wantD_not rfl rfl rfl hg10) (put_T rfl _) ?_
       refine EvO.skip (wantD_not rfl rfl rfl hg10) (put_T rfl _) ?_
       refine EvO.skip (wantD_not rfl rfl rfl hg10) (put_T rfl _) ?_
       refine EvO.skip (wantD_not rfl rfl rfl hg10) (put_T rfl _) ?_
       refine EvO.skip rfl (put_T rfl _) ?_
       refine EvO.skip rfl (put_T rfl _) ?_
       refine EvO.skip rfl (put_T rfl _) ?_
       refine EvO.skip rfl (put_T rfl _) ?_
       refine EvO.skip rfl (put_T rfl _) ?_
       refine EvO.skip rfl (put_T rfl _) ?_
       refine EvO.skip rfl (put_T rfl _) ?_
       refine EvO.skip (wantD_not rfl rfl rfl hg10) (put_T rfl _) ?_
       refine EvO.pickT (wantD_is rfl rfl rfl hg7) rfl hg10 (put_T rfl _) ?_
       refine EvO.pickT rfl rfl hg7 (put_T rfl _) ?_
       refine EvO.mv (.inl rfl) rfl (ev rfl) (put_T rfl _) ?_
       refine EvO.hcall rfl rfl (Ev.prim rfl rfl) (put_T rfl _) ?_
       refine EvO.go rfl rfl rfl (put_T rfl _) ?_
       refine EvO.mv (.inr rfl) rfl (ev rfl) (by dsimp only [Fr.put,List.set_cons_succ,List.set_cons_zero] <;> rfl) ?_
       refine EvO.nil (leafL ?_)
       try dsimp only [setW,List.foldl_cons,List.foldl_nil,nth,List.set_cons_zero,List.set_cons_succ]
       try dsimp only [Fr.putO,Fr.put,Fr.clean,Fr.ev,Fr.get,nth,Go.V.look,List.set_cons_succ,List.set_cons_zero,ofVal_int,ofVal_bool,ofVal_str,ofVal_nul,ofVal_pnil,ofVal_nilfn,ofVal_nilif,List.length,List.cons_append,List.nil_append,List.append_nil,Nat.reduceSub,Nat.reduceAdd,List.map,List.map_cons,List.map_nil]
       all_goals (first | rfl | (simp [hg1,hg7,hg10]; done) | (simp_all; done) | (simp [hg1,hg7,hg10]; omega) | (simp_all; omega))
      ·refine EvO.go (d := .ptr k9 0 0) (st1 := _) (wantD_is rfl rfl rfl hg10) rfl rfl (put_T rfl _) ?_
       refine EvO.hload (d := .int .i64 (f 0)) hH (wantD_is rfl rfl rfl hg10) rfl at0 rfl (put_T rfl _) ?_
       refine EvO.mv (.inl rfl) (wantD_is rfl rfl rfl hg10) (ev rfl) (put_T rfl _) ?_
       refine EvO.go (wantD_is rfl rfl rfl hg10) rfl rfl (put_T rfl _) ?_
       refine EvO.mv (.inl rfl) (wantD_is rfl rfl rfl hg10) (ev rfl) (put_T rfl _) ?_
       refine EvO.two 73 rfl (fun hg15 => ?_) (fun hg15 => ?_)
       ·refine EvO.go (d := .ptr k9 0 1) (st1 := _) (wantD_is rfl rfl rfl hg15) rfl rfl (put_T rfl _) ?_
        refine EvO.hload (d := .int .i64 (f 1)) hH (wantD_is rfl rfl rfl hg15) rfl at0 rfl (put_T rfl _) ?_
        refine EvO.mv (.inl rfl) (wantD_is rfl rfl rfl hg15) (ev rfl) (put_T rfl _) ?_
        refine EvO.mv (.inl rfl) (wantD_is rfl rfl rfl hg15) (ev rfl) (put_T rfl _) ?_
        first | refine EvO.rlen (wantD_is rfl rfl rfl hg15) (ev rfl) (Arg.rows (by assumption) hH) rfl (put_T rfl _) ?_ | refine EvO.rlen (wantD_is rfl rfl rfl hg15) (ev rfl) (hH.rows (by first | exact at0 | exact at1 | exact at2 | exact at3 | exact at4 | exact at5 | exact at6 | exact at7)) rfl (put_T rfl _) ?_ | refine EvO.slen (wantD_is rfl rfl rfl hg15) rfl rfl (put_T rfl _) ?_ | refine EvO.go (wantD_is rfl rfl rfl hg15) rfl rfl (put_T rfl _) ?_
        try simp only [List.length_map,List.length_append,List.length_cons,List.length_nil,List.length_set,List.length_replicate,List.length_reverse]
        refine EvO.addZ (z := (0 : Int)) (wantD_is rfl rfl rfl hg15) (ev rfl) (ev rfl) (by (try simp only [List.length_reverse,List.length_cons,List.length_nil,List.length_append,List.length_map,List.length_set]); first | (rw [wrap_i64 (by omega) (by omega)] <;> omega) | (rw [wrap_i32 (by omega) (by omega)] <;> omega)) (put_T rfl _) ?_
        refine EvO.go (wantD_is rfl rfl rfl hg15) rfl rfl (put_T rfl _) ?_
        refine EvO.pickT (wantD_is rfl rfl rfl hg10) rfl hg15 (put_T rfl _) ?_
        refine EvO.pickF (wantD_is rfl rfl rfl hg7) rfl hg10 (put_T rfl _) ?_
        refine EvO.pickT rfl rfl hg7 (put_T rfl _) ?_
        refine EvO.mv (.inl rfl) rfl (ev rfl) (put_T rfl _) ?_
        refine EvO.two 84 rfl (fun hg26 => ?_) (fun hg26 => ?_)
        ·refine EvO.hcall (wantD_is rfl rfl rfl hg26) rfl (Ev.prim rfl rfl) (put_T rfl _) ?_
         refine EvO.pickT rfl rfl hg26 (put_T rfl _) ?_
         refine EvO.mv (.inr rfl) rfl (ev rfl) (by dsimp only [Fr.put,List.set_cons_succ,List.set_cons_zero] <;> rfl) ?_
         refine EvO.nil (leafL ?_)
         try dsimp only [setW,List.foldl_cons,List.foldl_nil,nth,List.set_cons_zero,List.set_cons_succ]
         try dsimp only [Fr.putO,Fr.put,Fr.clean,Fr.ev,Fr.get,nth,Go.V.look,List.set_cons_succ,List.set_cons_zero,ofVal_int,ofVal_bool,ofVal_str,ofVal_nul,ofVal_pnil,ofVal_nilfn,ofVal_nilif,List.length,List.cons_append,List.nil_append,List.append_nil,Nat.reduceSub,Nat.reduceAdd,List.map,List.map_cons,List.map_nil]
         all_goals (first | rfl | (simp [hg1,hg7,hg10,hg15,hg26]; done) | (simp_all; done) | (simp [hg1,hg7,hg10,hg15,hg26]; omega) | (simp_all; omega))
        ·refine EvO.skip (wantD_not rfl rfl rfl hg26) (put_T rfl _) ?_
         refine EvO.pickF rfl rfl hg26 (put_T rfl _) ?_
         refine EvO.mv (.inr rfl) rfl (ev rfl) (by dsimp only [Fr.put,List.set_cons_succ,List.set_cons_zero] <;> rfl) ?_
         refine EvO.nil (leafL ?_)
         try dsimp only [setW,List.foldl_cons,List.foldl_nil,nth,List.set_cons_zero,List.set_cons_succ]
         try dsimp only [Fr.putO,Fr.put,Fr.clean,Fr.ev,Fr.get,nth,Go.V.look,List.set_cons_succ,List.set_cons_zero,ofVal_int,ofVal_bool,ofVal_str,ofVal_nul,ofVal_pnil,ofVal_nilfn,ofVal_nilif,List.length,List.cons_append,List.nil_append,List.append_nil,Nat.reduceSub,Nat.reduceAdd,List.map,List.map_cons,List.map_nil]
         all_goals (first | rfl | (simp [hg1,hg7,hg10,hg15,hg26]; done) | (simp_all; done) | (simp [hg1,hg7,hg10,hg15,hg26]; omega) | (simp_all; omega))
       ·refine EvO.skip (wantD_not rfl rfl rfl hg15) (put_T rfl _) ?_
        refine EvO.skip (wantD_not rfl rfl rfl hg15) (put_T rfl _) ?_
        refine EvO.skip (wantD_not rfl rfl rfl hg15) (put_T rfl _) ?_
        refine EvO.skip (wantD_not rfl rfl rfl hg15) (put_T rfl _) ?_
        refine EvO.skip (wantD_not rfl rfl rfl hg15) (put_T rfl _) ?_
        refine EvO.skip (wantD_not rfl rfl rfl hg15) (put_T rfl _) ?_
        refine EvO.skip (wantD_not rfl rfl rfl hg15) (put_T rfl _) ?_
        refine EvO.pickF (wantD_is rfl rfl rfl hg10) rfl hg15 (put_T rfl _) ?_
        refine EvO.pickF (wantD_is rfl rfl rfl hg7) rfl hg10 (put_T rfl _) ?_
        refine EvO.pickT rfl rfl hg7 (put_T rfl _) ?_
        refine EvO.mv (.inl rfl) rfl (ev rfl) (put_T rfl _) ?_
        refine EvO.skip rfl (put_T rfl _) ?_
        refine EvO.go rfl rfl rfl (put_T rfl _) ?_
        refine EvO.mv (.inr rfl) rfl (ev rfl) (by dsimp only [Fr.put,List.set_cons_succ,List.set_cons_zero] <;> rfl) ?_
        refine EvO.nil (leafL ?_)
        try dsimp only [setW,List.foldl_cons,List.foldl_nil,nth,List.set_cons_zero,List.set_cons_succ]
        try dsimp only [Fr.putO,Fr.put,Fr.clean,Fr.ev,Fr.get,nth,Go.V.look,List.set_cons_succ,List.set_cons_zero,ofVal_int,ofVal_bool,ofVal_str,ofVal_nul,ofVal_pnil,ofVal_nilfn,ofVal_nilif,List.length,List.cons_append,List.nil_append,List.append_nil,Nat.reduceSub,Nat.reduceAdd,List.map,List.map_cons,List.map_nil]
        all_goals (first | rfl | (simp [hg1,hg7,hg10,hg15]; done) | (simp_all; done) | (simp [hg1,hg7,hg10,hg15]; omega) | (simp_all; omega))
     ·refine EvO.skip (wantD_not rfl rfl rfl hg7) (put_T rfl _) ?_
      refine EvO.skip (wantD_not rfl rfl rfl hg7) (put_T rfl _) ?_
      refine EvO.skip (wantD_not rfl rfl rfl hg7) (put_T rfl _) ?_
      refine EvO.skip rfl (put_T rfl _) ?_
      refine EvO.skip rfl (put_T rfl _) ?_
      refine EvO.skip rfl (put_T rfl _) ?_
      refine EvO.skip rfl (put_T rfl _) ?_
      refine EvO.skip rfl (put_T rfl _) ?_
      refine EvO.skip rfl (put_T rfl _) ?_
      refine EvO.skip rfl (put_T rfl _) ?_
      refine EvO.skip rfl (put_T rfl _) ?_
      refine EvO.skip rfl (put_T rfl _) ?_
      refine EvO.skip rfl (put_T rfl _) ?_
      refine EvO.skip rfl (put_T rfl _) ?_
      refine EvO.skip rfl (put_T rfl _) ?_
      refine EvO.skip rfl (put_T rfl _) ?_
      refine EvO.skip (wantD_not rfl rfl rfl hg7) (put_T rfl _) ?_
      refine EvO.pickF rfl rfl hg7 (put_T rfl _) ?_
      refine EvO.mv (.inl rfl) rfl (ev rfl) (put_T rfl _) ?_
      refine EvO.skip rfl (put_T rfl _) ?_
      refine EvO.go rfl rfl rfl (put_T rfl _) ?_
      refine EvO.mv (.inr rfl) rfl (ev rfl) (by dsimp only [Fr.put,List.set_cons_succ,List.set_cons_zero] <;> rfl) ?_
      refine EvO.nil (leafL ?_)
      try dsimp only [setW,List.foldl_cons,List.foldl_nil,nth,List.set_cons_zero,List.set_cons_succ]
      try dsimp only [Fr.putO,Fr.put,Fr.clean,Fr.ev,Fr.get,nth,Go.V.look,List.set_cons_succ,List.set_cons_zero,ofVal_int,ofVal_bool,ofVal_str,ofVal_nul,ofVal_pnil,ofVal_nilfn,ofVal_nilif,List.length,List.cons_append,List.nil_append,List.append_nil,Nat.reduceSub,Nat.reduceAdd,List.map,List.map_cons,List.map_nil]
      all_goals (first | rfl | (simp [hg1,hg7]; done) | (simp_all; done) | (simp [hg1,hg7]; omega) | (simp_all; omega))
    ·refine EvO.skip (wantD_not rfl rfl rfl hg1) (put_T rfl _) ?_
     refine EvO.skip (wantD_not rfl rfl rfl hg1) (put_T rfl _) ?_
     refine EvO.skip (wantD_not rfl rfl rfl hg1) (put_T rfl _) ?_
     refine EvO.skip (wantD_not rfl rfl rfl hg1) (put_T rfl _) ?_
     refine EvO.pickF rfl rfl hg1 (put_T rfl _) ?_
     refine EvO.mv (.inl rfl) rfl (ev rfl) (put_T rfl _) ?_
     refine EvO.skip rfl (put_T rfl _) ?_
     refine EvO.skip rfl (put_T rfl _) ?_
     refine EvO.skip rfl (put_T rfl _) ?_
     refine EvO.skip rfl (put_T rfl _) ?_
     refine EvO.skip rfl (put_T rfl _) ?_
     refine EvO.skip rfl (put_T rfl _) ?_
     refine EvO.skip rfl (put_T rfl _) ?_
     refine EvO.skip rfl (put_T rfl _) ?_
     refine EvO.skip rfl (put_T rfl _) ?_
     refine EvO.skip rfl (put_T rfl _) ?_
     refine EvO.skip rfl (put_T rfl _) ?_
     refine EvO.skip rfl (put_T rfl _) ?_
     refine EvO.skip rfl (put_T rfl _) ?_
     refine EvO.skip rfl (put_T rfl _) ?_
     refine EvO.skip rfl (put_T rfl _) ?_
     refine EvO.skip rfl (put_T rfl _) ?_
     refine EvO.skip rfl (put_T rfl _) ?_
     refine EvO.go rfl rfl rfl (put_T rfl _) ?_
     refine EvO.mv (.inl rfl) rfl (ev rfl) (put_T rfl _) ?_
     refine EvO.skip rfl (put_T rfl _) ?_
     refine EvO.go rfl rfl rfl (put_T rfl _) ?_
     refine EvO.mv (.inr rfl) rfl (ev rfl) (by dsimp only [Fr.put,List.set_cons_succ,List.set_cons_zero] <;> rfl) ?_
     refine EvO.nil (leafL ?_)
     try dsimp only [setW,List.foldl_cons,List.foldl_nil,nth,List.set_cons_zero,List.set_cons_succ]
     try dsimp only [Fr.putO,Fr.put,Fr.clean,Fr.ev,Fr.get,nth,Go.V.look,List.set_cons_succ,List.set_cons_zero,ofVal_int,ofVal_bool,ofVal_str,ofVal_nul,ofVal_pnil,ofVal_nilfn,ofVal_nilif,List.length,List.cons_append,List.nil_append,List.append_nil,Nat.reduceSub,Nat.reduceAdd,List.map,List.map_cons,List.map_nil]
     all_goals (first | rfl | (simp [hg1]; done) | (simp_all; done) | (simp [hg1]; omega) | (simp_all; omega))
   try dsimp only [setW,List.foldl_cons,List.foldl_nil,nth,List.set_cons_zero,List.set_cons_succ]
   try dsimp only [Fr.putO,Fr.put,Fr.clean,Fr.ev,Fr.get,nth,Go.V.look,List.set_cons_succ,List.set_cons_zero,ofVal_int,ofVal_bool,ofVal_str,ofVal_nul,ofVal_pnil,ofVal_nilfn,ofVal_nilif,List.length,List.cons_append,List.nil_append,List.append_nil,Nat.reduceSub,Nat.reduceAdd,List.map,List.map_cons,List.map_nil]
   try change EvC _ _ _ _ _ _
   refine EvC.ret ⟨fun i h => (by cases h),_,_,rfl,leave_ro (by simp) hSb hH (rfl),?_⟩
   rfl
  ·have hcc : (w == []) = false := by simpa using hne
   try change EvC _ _ _ _ _ _
   repeat refine EvC.seq ?_
   refine EvC.cond (v := false) (by first | assumption | (dsimp only [Fr.ev,Fr.get,nth,Go.V.look]; rw [hcc])) (fun h => by cases h) (fun _ => ?_)
   try change EvC _ _ _ _ _ _
   refine EvC.skip ?_
   try change EvC _ _ _ _ _ _
   have hle : f 0 <= ((c.length : Nat) : Int) := by rw [hA]; exact Lib.index_le c w
   rw [<- hA]
   have hcc : decide (f 0 >= 0) = true := by rw [decide_eq_true_eq]; exact h0
   try change EvC _ _ _ _ _ _
   repeat refine EvC.seq ?_
   refine EvC.cutL 4 (.bool true) [] ?_ (fun ff tmp => ?_)
   ·refine EvO.mv (.inl rfl) rfl (ev rfl) (put_T rfl _) ?_
    refine EvO.mv (.inl rfl) rfl (ev rfl) (put_T rfl _) ?_
    refine EvO.two 59 rfl (fun hg1 => ?_) (fun hg1 => ?_)
    ·refine EvO.mv (.inl rfl) (wantD_is rfl rfl rfl hg1) (ev rfl) (put_T rfl _) ?_
     refine EvO.mv (.inl rfl) (wantD_is rfl rfl rfl hg1) (ev rfl) (put_T rfl _) ?_
     refine EvO.go (wantD_is rfl rfl rfl hg1) rfl rfl (put_T rfl _) ?_
     refine EvO.go (wantD_is rfl rfl rfl hg1) rfl rfl (put_T rfl _) ?_
     refine EvO.pickT rfl rfl hg1 (put_T rfl _) ?_
     refine EvO.mv (.inl rfl) rfl (ev rfl) (put_T rfl _) ?_
     refine EvO.two 65 rfl (fun hg7 => ?_) (fun hg7 => ?_)
     ·refine EvO.mv (.inl rfl) (wantD_is rfl rfl rfl hg7) (ev rfl) (put_T rfl _) ?_
      refine EvO.go (wantD_is rfl rfl rfl hg7) rfl rfl (put_T rfl _) ?_
      refine EvO.mv (.inl rfl) (wantD_is rfl rfl rfl hg7) (ev rfl) (put_T rfl _) ?_
      refine EvO.two 68 rfl (fun hg10 => ?_) (fun hg10 => ?_)
      ·refine EvO.skip (wantD_not rfl rfl rfl hg10) (put_T rfl _) ?_
       refine EvO.skip (wantD_not rfl rfl rfl hg10) (put_T rfl _) ?_
       refine EvO.skip (wantD_not rfl rfl rfl hg10) (put_T rfl _) ?_
       refine EvO.skip (wantD_not rfl rfl rfl hg10) (put_T rfl _) ?_
       refine EvO.skip (wantD_not rfl rfl rfl hg10) (put_T rfl _) ?_
       refine EvO.skip rfl (put_T rfl _) ?_
       refine EvO.skip rfl (put_T rfl _) ?_
       refine EvO.skip rfl (put_T rfl _) ?_
       refine EvO.skip rfl (put_T rfl _) ?_
       refine EvO.skip rfl (put_T rfl _) ?_
       refine EvO.skip rfl (put_T rfl _) ?_
       refine EvO.skip rfl (put_T rfl _) ?_
       refine EvO.skip (wantD_not rfl rfl rfl hg10) (put_T rfl _) ?_
       refine EvO.pickT (wantD_is rfl rfl rfl hg7) rfl hg10 (put_T rfl _) ?_
       refine EvO.pickT rfl rfl hg7 (put_T rfl _) ?_
       refine EvO.mv (.inl rfl) rfl (ev rfl) (put_T rfl _) ?_
       refine EvO.hcall rfl rfl (Ev.prim rfl rfl) (put_T rfl _) ?_
       refine EvO.go rfl rfl rfl (put_T rfl _) ?_
       refine EvO.mv (.inr rfl) rfl (ev rfl) (by dsimp only [Fr.put,List.set_cons_succ,List.set_cons_zero] <;> rfl) ?_
       refine EvO.nil (leafL ?_)
       try dsimp only [setW,List.foldl_cons,List.foldl_nil,nth,List.set_cons_zero,List.set_cons_succ]
       try dsimp only [Fr.putO,Fr.put,Fr.clean,Fr.ev,Fr.get,nth,Go.V.look,List.set_cons_succ,List.set_cons_zero,ofVal_int,ofVal_bool,ofVal_str,ofVal_nul,ofVal_pnil,ofVal_nilfn,ofVal_nilif,List.length,List.cons_append,List.nil_append,List.append_nil,Nat.reduceSub,Nat.reduceAdd,List.map,List.map_cons,List.map_nil]
       all_goals (first | rfl | (simp [hg1,hg7,hg10]; done) | (simp_all; done) | (simp [hg1,hg7,hg10]; omega) | (simp_all; omega))
      ·refine EvO.go (d := .ptr k9 0 0) (st1 := _) (wantD_is rfl rfl rfl hg10) rfl rfl (put_T rfl _) ?_
       refine EvO.hload (d := .int .i64 (f 0)) hH (wantD_is rfl rfl rfl hg10) rfl at0 rfl (put_T rfl _) ?_
       refine EvO.mv (.inl rfl) (wantD_is rfl rfl rfl hg10) (ev rfl) (put_T rfl _) ?_
       refine EvO.go (wantD_is rfl rfl rfl hg10) rfl rfl (put_T rfl _) ?_
       refine EvO.mv (.inl rfl) (wantD_is rfl rfl rfl hg10) (ev rfl) (put_T rfl _) ?_
       refine EvO.two 73 rfl (fun hg15 => ?_) (fun hg15 => ?_)
       ·refine EvO.go (d := .ptr k9 0 1) (st1 := _) (wantD_is rfl rfl rfl hg15) rfl rfl (put_T rfl _) ?_
        refine EvO.hload (d := .int .i64 (f 1)) hH (wantD_is rfl rfl rfl hg15) rfl at0 rfl (put_T rfl _) ?_
        refine EvO.mv (.inl rfl) (wantD_is rfl rfl rfl hg15) (ev rfl) (put_T rfl _) ?_
        refine EvO.mv (.inl rfl) (wantD_is rfl rfl rfl hg15) (ev rfl) (put_T rfl _) ?_
        first | refine EvO.rlen (wantD_is rfl rfl rfl hg15) (ev rfl) (Arg.rows (by assumption) hH) rfl (put_T rfl _) ?_ | refine EvO.rlen (wantD_is rfl rfl rfl hg15) (ev rfl) (hH.rows (by first | exact at0 | exact at1 | exact at2 | exact at3 | exact at4 | exact at5 | exact at6 | exact at7)) rfl (put_T rfl _) ?_ | refine EvO.slen (wantD_is rfl rfl rfl hg15) rfl rfl (put_T rfl _) ?_ | refine EvO.go (wantD_is rfl rfl rfl hg15) rfl rfl (put_T rfl _) ?_
        try simp only [List.length_map,List.length_append,List.length_cons,List.length_nil,List.length_set,List.length_replicate,List.length_reverse]
        refine EvO.addZ (z := (f 1)) (wantD_is rfl rfl rfl hg15) (ev rfl) (ev rfl) (by (try simp only [List.length_reverse,List.length_cons,List.length_nil,List.length_append,List.length_map,List.length_set]); first | (rw [wrap_i64 (by omega) (by omega)] <;> omega) | (rw [wrap_i32 (by omega) (by omega)] <;> omega)) (put_T rfl _) ?_
        refine EvO.go (wantD_is rfl rfl rfl hg15) rfl rfl (put_T rfl _) ?_
        refine EvO.pickT (wantD_is rfl rfl rfl hg10) rfl hg15 (put_T rfl _) ?_
        refine EvO.pickF (wantD_is rfl rfl rfl hg7) rfl hg10 (put_T rfl _) ?_
        refine EvO.pickT rfl rfl hg7 (put_T rfl _) ?_
        refine EvO.mv (.inl rfl) rfl (ev rfl) (put_T rfl _) ?_
        refine EvO.two 84 rfl (fun hg26 => ?_) (fun hg26 => ?_)
        ·refine EvO.hcall (wantD_is rfl rfl rfl hg26) rfl (Ev.prim rfl rfl) (put_T rfl _) ?_
         refine EvO.pickT rfl rfl hg26 (put_T rfl _) ?_
         refine EvO.mv (.inr rfl) rfl (ev rfl) (by dsimp only [Fr.put,List.set_cons_succ,List.set_cons_zero] <;> rfl) ?_
         refine EvO.nil (leafL ?_)
         try dsimp only [setW,List.foldl_cons,List.foldl_nil,nth,List.set_cons_zero,List.set_cons_succ]
         try dsimp only [Fr.putO,Fr.put,Fr.clean,Fr.ev,Fr.get,nth,Go.V.look,List.set_cons_succ,List.set_cons_zero,ofVal_int,ofVal_bool,ofVal_str,ofVal_nul,ofVal_pnil,ofVal_nilfn,ofVal_nilif,List.length,List.cons_append,List.nil_append,List.append_nil,Nat.reduceSub,Nat.reduceAdd,List.map,List.map_cons,List.map_nil]
         all_goals (first | rfl | (simp [hg1,hg7,hg10,hg15,hg26]; done) | (simp_all; done) | (simp [hg1,hg7,hg10,hg15,hg26]; omega) | (simp_all; omega))
        ·refine EvO.skip (wantD_not rfl rfl rfl hg26) (put_T rfl _) ?_
         refine EvO.pickF rfl rfl hg26 (put_T rfl _) ?_
         refine EvO.mv (.inr rfl) rfl (ev rfl) (by dsimp only [Fr.put,List.set_cons_succ,List.set_cons_zero] <;> rfl) ?_
         refine EvO.nil (leafL ?_)
         try dsimp only [setW,List.foldl_cons,List.foldl_nil,nth,List.set_cons_zero,List.set_cons_succ]
         try dsimp only [Fr.putO,Fr.put,Fr.clean,Fr.ev,Fr.get,nth,Go.V.look,List.set_cons_succ,List.set_cons_zero,ofVal_int,ofVal_bool,ofVal_str,ofVal_nul,ofVal_pnil,ofVal_nilfn,ofVal_nilif,List.length,List.cons_append,List.nil_append,List.append_nil,Nat.reduceSub,Nat.reduceAdd,List.map,List.map_cons,List.map_nil]
         all_goals (first | rfl | (simp [hg1,hg7,hg10,hg15,hg26]; done) | (simp_all; done) | (simp [hg1,hg7,hg10,hg15,hg26]; omega) | (simp_all; omega))
       ·refine EvO.skip (wantD_not rfl rfl rfl hg15) (put_T rfl _) ?_
        refine EvO.skip (wantD_not rfl rfl rfl hg15) (put_T rfl _) ?_
        refine EvO.skip (wantD_not rfl rfl rfl hg15) (put_T rfl _) ?_
        refine EvO.skip (wantD_not rfl rfl rfl hg15) (put_T rfl _) ?_
        refine EvO.skip (wantD_not rfl rfl rfl hg15) (put_T rfl _) ?_
        refine EvO.skip (wantD_not rfl rfl rfl hg15) (put_T rfl _) ?_
        refine EvO.skip (wantD_not rfl rfl rfl hg15) (put_T rfl _) ?_
        refine EvO.pickF (wantD_is rfl rfl rfl hg10) rfl hg15 (put_T rfl _) ?_
        refine EvO.pickF (wantD_is rfl rfl rfl hg7) rfl hg10 (put_T rfl _) ?_
        refine EvO.pickT rfl rfl hg7 (put_T rfl _) ?_
        refine EvO.mv (.inl rfl) rfl (ev rfl) (put_T rfl _) ?_
        refine EvO.skip rfl (put_T rfl _) ?_
        refine EvO.go rfl rfl rfl (put_T rfl _) ?_
        refine EvO.mv (.inr rfl) rfl (ev rfl) (by dsimp only [Fr.put,List.set_cons_succ,List.set_cons_zero] <;> rfl) ?_
        refine EvO.nil (leafL ?_)
        try dsimp only [setW,List.foldl_cons,List.foldl_nil,nth,List.set_cons_zero,List.set_cons_succ]
        try dsimp only [Fr.putO,Fr.put,Fr.clean,Fr.ev,Fr.get,nth,Go.V.look,List.set_cons_succ,List.set_cons_zero,ofVal_int,ofVal_bool,ofVal_str,ofVal_nul,ofVal_pnil,ofVal_nilfn,ofVal_nilif,List.length,List.cons_append,List.nil_append,List.append_nil,Nat.reduceSub,Nat.reduceAdd,List.map,List.map_cons,List.map_nil]
        all_goals (first | rfl | (simp [hg1,hg7,hg10,hg15]; done) | (simp_all; done) | (simp [hg1,hg7,hg10,hg15]; omega) | (simp_all; omega))
     ·refine EvO.skip (wantD_not rfl rfl rfl hg7) (put_T rfl _) ?_
      refine EvO.skip (wantD_not rfl rfl rfl hg7) (put_T rfl _) ?_
      refine EvO.skip (wantD_not rfl rfl rfl hg7) (put_T rfl _) ?_
      refine EvO.skip rfl (put_T rfl _) ?_
      refine EvO.skip rfl (put_T rfl _) ?_
      refine EvO.skip rfl (put_T rfl _) ?_
      refine EvO.skip rfl (put_T rfl _) ?_
      refine EvO.skip rfl (put_T rfl _) ?_
      refine EvO.skip rfl (put_T rfl _) ?_
      refine EvO.skip rfl (put_T rfl _) ?_
      refine EvO.skip rfl (put_T rfl _) ?_
      refine EvO.skip rfl (put_T rfl _) ?_
      refine EvO.skip rfl (put_T rfl _) ?_
      refine EvO.skip rfl (put_T rfl _) ?_
      refine EvO.skip rfl (put_T rfl _) ?_
      refine EvO.skip rfl (put_T rfl _) ?_
      refine EvO.skip (wantD_not rfl rfl rfl hg7) (put_T rfl _) ?_
      refine EvO.pickF rfl rfl hg7 (put_T rfl _) ?_
      refine EvO.mv (.inl rfl) rfl (ev rfl) (put_T rfl _) ?_
      refine EvO.skip rfl (put_T rfl _) ?_
      refine EvO.go rfl rfl rfl (put_T rfl _) ?_
      refine EvO.mv (.inr rfl) rfl (ev rfl) (by dsimp only [Fr.put,List.set_cons_succ,List.set_cons_zero] <;> rfl) ?_
      refine EvO.nil (leafL ?_)
      try dsimp only [setW,List.foldl_cons,List.foldl_nil,nth,List.set_cons_zero,List.set_cons_succ]
      try dsimp only [Fr.putO,Fr.put,Fr.clean,Fr.ev,Fr.get,nth,Go.V.look,List.set_cons_succ,List.set_cons_zero,ofVal_int,ofVal_bool,ofVal_str,ofVal_nul,ofVal_pnil,ofVal_nilfn,ofVal_nilif,List.length,List.cons_append,List.nil_append,List.append_nil,Nat.reduceSub,Nat.reduceAdd,List.map,List.map_cons,List.map_nil]
      all_goals (first | rfl | (simp [hg1,hg7]; done) | (simp_all; done) | (simp [hg1,hg7]; omega) | (simp_all; omega))
    ·refine EvO.skip (wantD_not rfl rfl rfl hg1) (put_T rfl _) ?_
     refine EvO.skip (wantD_not rfl rfl rfl hg1) (put_T rfl _) ?_
     refine EvO.skip (wantD_not rfl rfl rfl hg1) (put_T rfl _) ?_
     refine EvO.skip (wantD_not rfl rfl rfl hg1) (put_T rfl _) ?_
     refine EvO.pickF rfl rfl hg1 (put_T rfl _) ?_
     refine EvO.mv (.inl rfl) rfl (ev rfl) (put_T rfl _) ?_
     refine EvO.skip rfl (put_T rfl _) ?_
     refine EvO.skip rfl (put_T rfl _) ?_
     refine EvO.skip rfl (put_T rfl _) ?_
     refine EvO.skip rfl (put_T rfl _) ?_
     refine EvO.skip rfl (put_T rfl _) ?_
     refine EvO.skip rfl (put_T rfl _) ?_
     refine EvO.skip rfl (put_T rfl _) ?_
     refine EvO.skip rfl (put_T rfl _) ?_
     refine EvO.skip rfl (put_T rfl _) ?_
     refine EvO.skip rfl (put_T rfl _) ?_
     refine EvO.skip rfl (put_T rfl _) ?_
     refine EvO.skip rfl (put_T rfl _) ?_
     refine EvO.skip rfl (put_T rfl _) ?_
     refine EvO.skip rfl (put_T rfl _) ?_
     refine EvO.skip rfl (put_T rfl _) ?_
     refine EvO.skip rfl (put_T rfl _) ?_
     refine EvO.skip rfl (put_T rfl _) ?_
     refine EvO.go rfl rfl rfl (put_T rfl _) ?_
     refine EvO.mv (.inl rfl) rfl (ev rfl) (put_T rfl _) ?_
     refine EvO.skip rfl (put_T rfl _) ?_
     refine EvO.go rfl rfl rfl (put_T rfl _) ?_
     refine EvO.mv (.inr rfl) rfl (ev rfl) (by dsimp only [Fr.put,List.set_cons_succ,List.set_cons_zero] <;> rfl) ?_
     refine EvO.nil (leafL ?_)
     try dsimp only [setW,List.foldl_cons,List.foldl_nil,nth,List.set_cons_zero,List.set_cons_succ]
     try dsimp only [Fr.putO,Fr.put,Fr.clean,Fr.ev,Fr.get,nth,Go.V.look,List.set_cons_succ,List.set_cons_zero,ofVal_int,ofVal_bool,ofVal_str,ofVal_nul,ofVal_pnil,ofVal_nilfn,ofVal_nilif,List.length,List.cons_append,List.nil_append,List.append_nil,Nat.reduceSub,Nat.reduceAdd,List.map,List.map_cons,List.map_nil]
     all_goals (first | rfl | (simp [hg1]; done) | (simp_all; done) | (simp [hg1]; omega) | (simp_all; omega))
   try dsimp only [setW,List.foldl_cons,List.foldl_nil,nth,List.set_cons_zero,List.set_cons_succ]
   try dsimp only [Fr.putO,Fr.put,Fr.clean,Fr.ev,Fr.get,nth,Go.V.look,List.set_cons_succ,List.set_cons_zero,ofVal_int,ofVal_bool,ofVal_str,ofVal_nul,ofVal_pnil,ofVal_nilfn,ofVal_nilif,List.length,List.cons_append,List.nil_append,List.append_nil,Nat.reduceSub,Nat.reduceAdd,List.map,List.map_cons,List.map_nil]
   try change EvC _ _ _ _ _ _
   refine EvC.ret ⟨fun i h => (by cases h),_,_,rfl,leave_ro (by simp) hSb hH (rfl),?_⟩
   rfl
theorem own : ownKnob Try.prog.godebug = none := by kernel_rfl
theorem laidOut : laidOutB Try.prog = true := by kernel_rfl
theorem lifted (os : Os) (started : os.Started) (H : Type) (enc : TypeId × Value -> H) (F : Stop.Interp) :
  ReturnsInHanded {} Try.checked os 3 .any (Rows.backWordsUptoRow.pre enc Try.checked.prog Try.f3 (Rows.OpenSpec.upto Rows.backWordsSpec)) (((Rows.OpenSpec.upto Rows.backWordsSpec).at F).post enc Try.prog Try.f3 false true false false) := by
 have e := OpenClaim.pre_eq_preRow (enc := enc) Try.checked.prog Try.f3 (Rows.OpenSpec.upto Rows.backWordsSpec) Rows.backWordsUptoRow
 rw [e]
 refine returnsInHanded_of_row (C := Try.checked) own started (by kernel_rfl) Try.func3 (by
  rw [<- e]
  exact OpenSpec.witness (enc := enc) (C := Try.checked) (s := Rows.OpenSpec.upto Rows.backWordsSpec) (k := Rows.uptoSmall) rfl false ⟨#[], #[.string .empty, .string .empty], []⟩ 8 (by kernel_rfl) (by kernel_rfl) (by kernel_rfl)
   (x := ([.lit (.string []), .lit (.string [])], [], [])) (by kernel_rfl) rfl (by kernel_rfl)) ?_
 intro W base args ds gs before hval hW _ hk _ _ hsh _
 have hW' := hW
 have hk := hk _ rfl
 have hG : Gl W fun b => b < W.heap.size := fun g hg => by
  have h0 : g = 0 := by simpa [glbs] using hg
  subst h0
  obtain ⟨m,hm⟩ := Ytapfahlbkhgdpaa.idxL.s1_3 W hsh
  exact ⟨World.block_lt_of_cell? _ _ hm,m,hm⟩
 obtain ⟨p,q,hA0,hV,rfl,hfz,hnd⟩ := hW
 have hA : DataW.TrodAll enc Try.prog W 0 (fun _ => true) true Try.f3.params.toList args.toList ds p := hA0
 rw [Try.params3] at hA hval
 obtain ⟨v0,vs0,d0,ds0,p0,q0,hargs,rfl,rfl,h0,r0⟩ := trodAll_cons hA
 obtain ⟨v1,vs1,d1,ds1,p1,q1,rfl,rfl,rfl,h1,r1⟩ := trodAll_cons r0
 obtain ⟨rfl,rfl,rfl⟩ := trodAll_nil r1
 obtain rfl : args = #[v0,v1] := by cases args; simp_all
 obtain ⟨rfl,rfl⟩ := trodVars_none hV
 simp only [Rows.uptoSmall,List.append_nil,List.nil_append,List.singleton_append,List.cons_append,decide_eq_true_eq,Rows.uptoBulkAll] at hk
 have i0 := trod_ir h0 (n := 12) (by kernel_rfl) (hval 0 9 v0 rfl rfl)
 have k0 := h0
 have lt0 : ∀ x ∈ p0,x.block < W.heap.size := by obtain ⟨m,hm⟩ := k0; exact DataW.trod_lt m _ _ _ hm
 obtain ⟨b0,hb0,hs0⟩ := arg_string h0 Try.underlying9
 have l0 : b0.length <= Rows.uptoBulk d0 := by rw [hs0]; simp only [Rows.uptoBulk]; omega
 have i1 := trod_ir h1 (n := 12) (by kernel_rfl) (hval 1 9 v1 rfl rfl)
 have k1 := h1
 have lt1 : ∀ x ∈ p1,x.block < W.heap.size := by obtain ⟨m,hm⟩ := k1; exact DataW.trod_lt m _ _ _ hm
 obtain ⟨b1,hb1,hs1⟩ := arg_string h1 Try.underlying9
 have l1 : b1.length <= Rows.uptoBulk d1 := by rw [hs1]; simp only [Rows.uptoBulk]; omega
 have hlaw : Ev pv 3 [dval d0,dval d1] ⟨[],0,0⟩ (.bool true) ⟨[],0,0⟩ := by
  rw [hb0,hb1]
  exact law b0 (by omega) b1 (by omega)
 have hir : ∀ (i : Nat) c v, [dval d0,dval d1][i]? = some c -> [v0,v1][i]? = some v -> IR W (fun b => b < W.heap.size) c v := by
  intro i c v hc hv
  match i,hc,hv with
  | 0,hc,hv => cases hc; cases hv; exact i0
  | 1,hc,hv => cases hc; cases hv; exact i1
 clear hA0
 refine (law_calls view hlaw (us := [v0,v1]) hG rfl hir).mono fun e W' ⟨he,bel⟩ => ?_
 subst he
 exact ⟨_,rfl,_,_,_, [],_, [],hW',trodAll_mk1 (shut_bool Try.underlying4 _),(trodAll_cons_mk (Below.trod laidOut (by kernel_rfl) (of_decide_eq_true (by kernel_rfl)) k0 bel lt0) (trodAll_cons_mk (Below.trod laidOut (by kernel_rfl) (of_decide_eq_true (by kernel_rfl)) k1 bel lt1) trodAll_mk0)),rfl,bel.frame _,fun h => by cases h⟩
theorem fact1 : (Rows.backWordsUptoRow.inPlace == Try.checked.prog.inPlace 3) = true := by kernel_rfl
theorem fact2 : (Rows.backWordsUptoRow.unfollowed == Try.checked.prog.unfollowed 3) = true := by kernel_rfl
theorem fact3 : (Rows.backWordsUptoRow.recurses == Try.checked.prog.recurses 3) = true := by kernel_rfl
theorem fact4 : (Rows.backWordsUptoRow.named == Try.checked.prog.varsNamed 3) = true := by kernel_rfl
theorem and_t {a b : Bool} (h1 : a = true) (h2 : b = true) : (a && b) = true := by rw [h1,h2]; rfl
theorem facts : joinedFacts Try.checked.prog 3 Try.f3 (Rows.OpenSpec.upto Rows.backWordsSpec).bare Rows.backWordsUptoRow = true := by
 unfold joinedFacts
 exact and_t (and_t (and_t (and_t (and_t (and_t (and_t (and_t (and_t (and_t (and_t (and_t (and_t (and_t (and_t (and_t (and_t (and_t (and_t (and_t (and_t (and_t (and_t (by kernel_rfl) fact1) fact2) fact3) fact4) (by kernel_rfl)) (by kernel_rfl)) (by kernel_rfl)) (by kernel_rfl)) (by kernel_rfl)) (by kernel_rfl)) (by kernel_rfl)) (by kernel_rfl)) (by kernel_rfl)) (by kernel_rfl)) (by kernel_rfl)) (by kernel_rfl)) (by kernel_rfl)) (by kernel_rfl)) (by kernel_rfl)) (by kernel_rfl)) (by kernel_rfl)) (by kernel_rfl)) (by kernel_rfl)
theorem proved : Rows.BackWordsUptoSaid :=
 OpenClaim.holds_of_cond 3 Try.f3 rfl rfl rfl rfl rfl rfl rfl ⟨rfl,rfl,rfl,rfl,rfl⟩ rfl rfl rfl rfl rfl (by kernel_rfl) Try.func3 facts
  (of_decide_eq_true (by kernel_rfl)) (by unfold Func.isWrapper; first | (rw [if_pos (by decide +kernel)]; kernel_rfl) | (rw [if_neg (by decide +kernel)]; exact ⟨rfl,rfl⟩))
  (fun os started H enc _ F => lifted os started H enc F)
end Go.Proofs.Ytapfahlbkhgdpaa.backWords
#print axioms Go.Proofs.Ytapfahlbkhgdpaa.backWords.proved
