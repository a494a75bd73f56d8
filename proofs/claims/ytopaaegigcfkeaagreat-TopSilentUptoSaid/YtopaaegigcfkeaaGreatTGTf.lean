/- own -/
import Derived.Test.YtopaaegigcfkeaaGreatTGHr
import Derived.Test.YtopaaegigcfkeaaGreatTM2
set_option maxRecDepth 100000
set_option maxHeartbeats 4000000
set_option linter.unusedSimpArgs false
set_option linter.unusedVariables false
namespace Go.Proofs.YtopaaegigcfkeaaGreat
open Go.V Go
def ixF_Tf (fr : Go.V.Fr) (k : Nat) : Go.V.D := Go.V.nth .junk fr.loc k
theorem _root_.Go.V.Has.rot {N : Nat} {S st : St} {H : List Ent} (A B : List Ent) (h : Has N S st (A ++ (B ++ H))) : Has N S st (B ++ (A ++ H)) := by
 refine h.sub (fun i => if i < B.length then i + A.length else if i < B.length + A.length then i - B.length else i) (fun a b e => ?_) fun i e hi => ?_
 ·have e' : (if a < B.length then a + A.length else if a < B.length + A.length then a - B.length else a) = (if b < B.length then b + A.length else if b < B.length + A.length then b - B.length else b) := e
  repeat' split at e'
  all_goals omega
 ·show (A ++ (B ++ H))[if i < B.length then i + A.length else if i < B.length + A.length then i - B.length else i]? = some e
  by_cases h1 : i < B.length
  ·rw [if_pos h1,List.getElem?_append_right (by omega),Nat.add_sub_cancel,List.getElem?_append_left h1]
   rwa [List.getElem?_append_left h1] at hi
  ·rw [List.getElem?_append_right (by omega)] at hi
   by_cases h2 : i < B.length + A.length
   ·rw [if_neg h1,if_pos h2,List.getElem?_append_left (by omega)]
    rwa [List.getElem?_append_left (by omega)] at hi
   ·rw [if_neg h1,if_neg h2,List.getElem?_append_right (by omega),List.getElem?_append_right (by omega)]
    rw [List.getElem?_append_right (by omega)] at hi
    rw [<- hi]; congr 1; omega
theorem fread_ev {N : Nat} {S s0 : St} {H : List Ent} {kF kj ks : Nat} {b1 b2 b3 b5 b6 c1 : D} (hF : S.flr <= N) (hH : Has N S s0 (.box kF (.mem 0 false [b1,b2,b3, .ptr kj 0 0,b5,b6]) :: .box kj (.mem 0 false [c1, .ptr ks 0 0]) :: .box ks (.mem 0 false [.nul]) :: H)) :
  ∃ d st',Ev pv 67 [.ptr kF 0 0] s0 d st' /\ d = .int .i64 0 /\ Has N S st' (.box kF (.mem 0 false [b1,b2,b3, .ptr kj 0 0,b5,b6]) :: .box kj (.mem 0 false [c1, .ptr ks 0 0]) :: .box ks (.mem 0 false [.nul]) :: H) := by
 refine Ev.mkE rfl fi67 rfl rfl rfl ?_
 dsimp only [List.cons_append,List.nil_append,List.length,Nat.reduceSub,Nat.reduceAdd,List.replicate_succ,List.replicate_zero]
 change EvC _ _ _ _ s0 _
 try change EvC _ _ _ _ _ _
 repeat refine EvC.seq ?_
 try generalize hK : SeqQ _ _ _ _ = K
 refine EvC.reg ?_
 refine EvO.mv (.inr rfl) rfl (ev rfl) (by dsimp only [Fr.put,List.set_cons_succ,List.set_cons_zero] <;> rfl) ?_
 refine EvO.nil ?_
 try subst hK
 try change EvC _ _ _ _ _ _
 try change EvC _ _ _ _ _ _
 repeat refine EvC.seq ?_
 try generalize hK : SeqQ _ _ _ _ = K
 refine EvC.reg ?_
 refine EvO.mv (.inr rfl) rfl (ev rfl) (by dsimp only [Fr.put,List.set_cons_succ,List.set_cons_zero] <;> rfl) ?_
 refine EvO.nil ?_
 try subst hK
 try change EvC _ _ _ _ _ _
 try change EvC _ _ _ _ _ _
 repeat refine EvC.seq ?_
 refine EvC.block ?_
 refine EvC.loop (fun mm fr st => ∃ (i : Nat),fr.clean = ⟨7, [.ptr kF 0 0,ixF_Tf fr 1,ixF_Tf fr 2, .int .i64 (i : Nat),ixF_Tf fr 4,ixF_Tf fr 5,ixF_Tf fr 6], []⟩ /\ Has N S st (.box kF (.mem 0 false [b1,b2,b3, .ptr kj 0 0,b5,b6]) :: .box kj (.mem 0 false [c1, .ptr ks 0 0]) :: .box ks (.mem 0 false [.nul]) :: H) /\ (i + mm = 13)) (12) ?_ ?_
 ·exact ⟨1,rfl,hH,by omega⟩
 rintro mm fr st ⟨i,hfr,hH,hi⟩
 rw [hfr]
 clear hfr
 try generalize ixF_Tf fr = ee
 clear fr
 try change EvC _ _ _ _ _ _
 try change EvC _ _ _ _ _ _
 repeat refine EvC.seq ?_
 try generalize hK : SeqQ _ _ _ _ = K
 refine EvC.reg ?_
 refine EvO.mv (.inl rfl) rfl (ev rfl) (put_T rfl _) ?_
 refine EvO.go rfl rfl rfl (put_T rfl _) ?_
 refine EvO.nil ?_
 try subst hK
 try change EvC _ _ _ _ _ _
 try change EvC _ _ _ _ _ _
 repeat refine EvC.seq ?_
 refine EvC.cond (by first | rfl | assumption) (fun h1 => ?_) (fun h1 => ?_) <;> try simp only [decide_eq_true_eq,decide_eq_false_iff_not,beq_iff_eq,beq_eq_false_iff_ne,bne_iff_ne,bne_eq_false_iff_eq,ne_eq,Bool.not_eq_true',Bool.not_eq_false',Bool.not_eq_true,Bool.not_eq_false] at h1
 ·refine EvC.skip ?_
  try change EvC _ _ _ _ _ _
  try change EvC _ _ _ _ _ _
  repeat refine EvC.seq ?_
  refine EvC.block ?_
  try change EvC _ _ _ _ _ _
  repeat refine EvC.seq ?_
  try generalize hK : SeqQ _ _ _ _ = K
  refine EvC.reg ?_
  refine EvO.mv (.inl rfl) rfl (ev rfl) (put_T rfl _) ?_
  refine EvO.go rfl rfl rfl (put_T rfl _) ?_
  refine EvO.pfield (fo := 3) (m := 0) (o := 3) rfl (ev rfl) rfl rfl rfl (put_T rfl _) ?_
  first | refine EvO.hload hH rfl (ev rfl) (by first | exact at0 | exact at1 | exact at2 | exact at3 | exact at4 | exact at5 | exact at6 | exact at7) rfl (put_T rfl _) ?_ | refine EvO.rload rfl (ev rfl) (by assumption) rfl (put_T rfl _) ?_ | refine EvO.oload hH rfl (ev rfl) (by assumption) (by first | exact at0 | exact at1 | exact at2 | exact at3 | exact at4 | exact at5 | exact at6 | exact at7) (by assumption) rfl (put_T rfl _) ?_
  refine EvO.mv (.inl rfl) rfl (ev rfl) (put_T rfl _) ?_
  refine EvO.hcall rfl rfl (jget_ev (hH.at at1) (hH.at at2)) (put_T rfl _) ?_
  refine EvO.mv (.inr rfl) rfl (ev rfl) (by dsimp only [Fr.put,List.set_cons_succ,List.set_cons_zero] <;> rfl) ?_
  refine EvO.nil ?_
  try subst hK
  try change EvC _ _ _ _ _ _
  try change EvC _ _ _ _ _ _
  repeat refine EvC.seq ?_
  try generalize hK : SeqQ _ _ _ _ = K
  refine EvC.reg ?_
  refine EvO.mv (.inl rfl) rfl (ev rfl) (put_T rfl _) ?_
  refine EvO.go (d := .bool true) (st1 := _) rfl rfl rfl (put_T rfl _) ?_
  refine EvO.nil ?_
  try subst hK
  try change EvC _ _ _ _ _ _
  try change EvC _ _ _ _ _ _
  repeat refine EvC.seq ?_
  refine EvC.cond (v := true) (by first | rfl | assumption) (fun _ => ?_) (fun h => by cases h)
  try change EvC _ _ _ _ _ _
  try change EvC _ _ _ _ _ _
  refine EvC.exit ?_
  try change EvC _ _ _ _ _ _
  try change EvC _ _ _ _ _ _
  repeat refine EvC.seq ?_
  try generalize hK : SeqQ _ _ _ _ = K
  refine EvC.reg ?_
  refine EvO.mv (.inl rfl) rfl (ev rfl) (put_T rfl _) ?_
  refine EvO.addZ (z := ((i + 1 : Nat) : Int)) rfl (ev rfl) (ev rfl) (by (try simp only [List.length_reverse,List.length_cons,List.length_nil,List.length_append,List.length_map,List.length_set]); first | (rw [wrap_i64 (by omega) (by omega)] <;> omega) | (rw [wrap_i32 (by omega) (by omega)] <;> omega)) (put_T rfl _) ?_
  refine EvO.mv (.inr rfl) rfl (ev rfl) (by dsimp only [Fr.put,List.set_cons_succ,List.set_cons_zero] <;> rfl) ?_
  refine EvO.nil ?_
  try subst hK
  try change EvC _ _ _ _ _ _
  exact ⟨mm - 1,by omega,⟨i + 1,rfl,hH,by omega⟩⟩
 ·try change EvC _ _ _ _ _ _
  refine EvC.exit ?_
  try change EvC _ _ _ _ _ _
  try change EvC _ _ _ _ _ _
  repeat refine EvC.seq ?_
  try generalize hK : SeqQ _ _ _ _ = K
  refine EvC.reg ?_
  refine EvO.mv (.inr rfl) rfl (ev rfl) (by dsimp only [Fr.put,List.set_cons_succ,List.set_cons_zero] <;> rfl) ?_
  refine EvO.nil ?_
  try subst hK
  try change EvC _ _ _ _ _ _
  refine EvC.ret ⟨fun i h => (by cases h),_,_,_,rfl,rfl,?_⟩
  exact ⟨rfl,hH⟩
theorem mnew_ev {N : Nat} {S s0 : St} {H : List Ent} (hF : S.flr <= N) (hH : Has N S s0 H) :
  ∃ d st',Ev pv 64 [.int .i64 4] s0 d st' /\ ∃ ka,d = .tup [.ptr ka 0 0, .int .i64 0] /\ Has N S st' (.box ka (.mem 0 false [.junk, .bool false]) :: H) :=
 ⟨_,_,Ev.prim (p := mailP) rfl (by simp [mailP]),_,rfl,hH.pushBox _⟩
theorem fopen_ev {N : Nat} {S s0 : St} {H : List Ent} {kd kn ky : Nat} {a2 a3 : D} (hF : S.flr <= N) (hH : Has N S s0 (.box kd (.mem 0 false [.ptr kn 0 0,a2,a3]) :: .box kn (.mem 0 false [.nul]) :: H)) :
  ∃ d st',Ev pv 39 [.ptr kd 0 0, .ptr ky 0 0] s0 d st' /\ ∃ kF kl km kj ks kp ka,d = .tup [.ptr kF 0 0, .int .i64 0] /\ Has N S st' (.box kF (.mem 0 false [.ptr ky 0 0, .pnil, .ptr kl 0 0, .ptr kj 0 0, .ptr kp 0 0, .ptr ka 0 0]) :: .box kj (.mem 0 false [.ptr kd 0 0, .ptr ks 0 0]) :: .box ks (.mem 0 false [.nul]) :: .box kp (.mem 0 false [.nul]) :: .box kd (.mem 0 false [.ptr kn 0 0,a2,a3]) :: .box kn (.mem 0 false [.nul]) :: .box kl (.mem 0 false [.ptr kd 0 0, .nul, .mp km]) :: .box km (.map (mapC [])) :: H) := by
 refine Ev.mkE rfl fi39 rfl rfl rfl ?_
 dsimp only [List.cons_append,List.nil_append,List.length,Nat.reduceSub,Nat.reduceAdd,List.replicate_succ,List.replicate_zero]
 change EvC _ _ _ _ s0 _
 try change EvC _ _ _ _ _ _
 repeat refine EvC.seq ?_
 try generalize hK : SeqQ _ _ _ _ = K
 refine EvC.reg ?_
 refine EvO.mv (.inr rfl) rfl (ev rfl) (by dsimp only [Fr.put,List.set_cons_succ,List.set_cons_zero] <;> rfl) ?_
 refine EvO.mv (.inr rfl) rfl (ev rfl) (by dsimp only [Fr.put,List.set_cons_succ,List.set_cons_zero] <;> rfl) ?_
 refine EvO.nil ?_
 try subst hK
 try change EvC _ _ _ _ _ _
 have hg2 : false = false := rfl
 try change EvC _ _ _ _ _ _
 repeat refine EvC.seq ?_
 try generalize hK : SeqQ _ _ _ _ = K
 refine EvC.reg ?_
 refine EvO.mv (.inl rfl) rfl (ev rfl) (put_T rfl _) ?_
 refine EvO.go (d := .bool false) (st1 := _) rfl rfl rfl (put_T rfl _) ?_
 refine EvO.mv (.inl rfl) rfl (ev rfl) (put_T rfl _) ?_
 refine EvO.mv (.inl rfl) (wantD_is rfl rfl rfl hg2) (ev rfl) (put_T rfl _) ?_
 refine EvO.go (d := .bool false) (st1 := _) (wantD_is rfl rfl rfl hg2) rfl rfl (put_T rfl _) ?_
 refine EvO.pickF rfl rfl hg2 (put_T rfl _) ?_
 refine EvO.nil ?_
 try subst hK
 try change EvC _ _ _ _ _ _
 try change EvC _ _ _ _ _ _
 repeat refine EvC.seq ?_
 refine EvC.cond (v := false) (by first | rfl | assumption) (fun h => by cases h) (fun _ => ?_)
 try change EvC _ _ _ _ _ _
 refine EvC.skip ?_
 try change EvC _ _ _ _ _ _
 try change EvC _ _ _ _ _ _
 repeat refine EvC.seq ?_
 try generalize hK : SeqQ _ _ _ _ = K
 refine EvC.reg ?_
 refine EvO.mv (.inl rfl) rfl (ev rfl) (put_T rfl _) ?_
 obtain ⟨_,st1,hev,kl,km,rfl,hH⟩ := lopen_ev hF hH
 refine EvO.hcall rfl rfl hev (put_T rfl _) ?_
 refine EvO.mv (.inl rfl) rfl (ev rfl) (put_T rfl _) ?_
 refine EvO.go rfl rfl rfl (put_T rfl _) ?_
 refine EvO.go rfl rfl rfl (put_T rfl _) ?_
 refine EvO.mv (.inr rfl) rfl (ev rfl) (by dsimp only [Fr.put,List.set_cons_succ,List.set_cons_zero] <;> rfl) ?_
 refine EvO.mv (.inr rfl) rfl (ev rfl) (by dsimp only [Fr.put,List.set_cons_succ,List.set_cons_zero] <;> rfl) ?_
 refine EvO.nil ?_
 try subst hK
 try change EvC _ _ _ _ _ _
 try change EvC _ _ _ _ _ _
 repeat refine EvC.seq ?_
 try generalize hK : SeqQ _ _ _ _ = K
 refine EvC.reg ?_
 refine EvO.mv (.inl rfl) rfl (ev rfl) (put_T rfl _) ?_
 refine EvO.go rfl rfl rfl (put_T rfl _) ?_
 refine EvO.nil ?_
 try subst hK
 try change EvC _ _ _ _ _ _
 try change EvC _ _ _ _ _ _
 repeat refine EvC.seq ?_
 refine EvC.cond (v := false) (by first | rfl | assumption) (fun h => by cases h) (fun _ => ?_)
 try change EvC _ _ _ _ _ _
 refine EvC.skip ?_
 try change EvC _ _ _ _ _ _
 have hH := Has.rot [_,_] [_,_] hH
 try change EvC _ _ _ _ _ _
 repeat refine EvC.seq ?_
 try generalize hK : SeqQ _ _ _ _ = K
 refine EvC.reg ?_
 refine EvO.mv (.inl rfl) rfl (ev rfl) (put_T rfl _) ?_
 obtain ⟨_,st1,hev,kj,ks,rfl,hH⟩ := jopen_ev hF hH
 refine EvO.hcall rfl rfl hev (put_T rfl _) ?_
 refine EvO.mv (.inl rfl) rfl (ev rfl) (put_T rfl _) ?_
 refine EvO.go rfl rfl rfl (put_T rfl _) ?_
 refine EvO.go rfl rfl rfl (put_T rfl _) ?_
 refine EvO.mv (.inr rfl) rfl (ev rfl) (by dsimp only [Fr.put,List.set_cons_succ,List.set_cons_zero] <;> rfl) ?_
 refine EvO.mv (.inr rfl) rfl (ev rfl) (by dsimp only [Fr.put,List.set_cons_succ,List.set_cons_zero] <;> rfl) ?_
 refine EvO.nil ?_
 try subst hK
 try change EvC _ _ _ _ _ _
 try change EvC _ _ _ _ _ _
 repeat refine EvC.seq ?_
 try generalize hK : SeqQ _ _ _ _ = K
 refine EvC.reg ?_
 refine EvO.mv (.inl rfl) rfl (ev rfl) (put_T rfl _) ?_
 refine EvO.go rfl rfl rfl (put_T rfl _) ?_
 refine EvO.nil ?_
 try subst hK
 try change EvC _ _ _ _ _ _
 try change EvC _ _ _ _ _ _
 repeat refine EvC.seq ?_
 refine EvC.cond (v := false) (by first | rfl | assumption) (fun h => by cases h) (fun _ => ?_)
 try change EvC _ _ _ _ _ _
 refine EvC.skip ?_
 try change EvC _ _ _ _ _ _
 try change EvC _ _ _ _ _ _
 repeat refine EvC.seq ?_
 try generalize hK : SeqQ _ _ _ _ = K
 refine EvC.reg ?_
 refine EvO.mv (.inl rfl) rfl (ev rfl) (put_T rfl _) ?_
 refine EvO.mv (.inl rfl) rfl (ev rfl) (put_T rfl _) ?_
 refine EvO.mv (.inl rfl) rfl (ev rfl) (put_T rfl _) ?_
 obtain ⟨_,st1,hev,kp,rfl,hH⟩ := tnB_ev hF hH
 refine EvO.hcall rfl rfl hev (put_T rfl _) ?_
 refine EvO.go rfl rfl rfl (put_T rfl _) ?_
 refine EvO.hbox hH rfl rfl (fun _ => (put_T rfl _)) (fun k41 st hk41 hH => ?_)
 try dsimp only [List.set_cons_zero,List.set_cons_succ,List.cons_append,List.nil_append,setMany,List.map_cons,List.map_nil,D.cells,Nat.reduceAdd,List.nil_append] at hH
 refine EvO.mv (.inr rfl) rfl (ev rfl) (by dsimp only [Fr.put,List.set_cons_succ,List.set_cons_zero] <;> rfl) ?_
 refine EvO.nil ?_
 try subst hK
 try change EvC _ _ _ _ _ _
 have hH : Has N S st (.box k41 (.mem 0 false [.ptr ky 0 0, .pnil, .ptr kl 0 0, .ptr kj 0 0, .ptr kp 0 0, .pnil]) :: .box kp (.mem 0 false [.nul]) :: .box kj (.mem 0 false [.ptr kd 0 0, .ptr ks 0 0]) :: .box ks (.mem 0 false [.nul]) :: .box kd (.mem 0 false [.ptr kn 0 0,a2,a3]) :: .box kn (.mem 0 false [.nul]) :: .box kl (.mem 0 false [.ptr kd 0 0, .nul, .mp km]) :: .box km (.map (mapC [])) :: H) := hH
 try change EvC _ _ _ _ _ _
 repeat refine EvC.seq ?_
 try generalize hK : SeqQ _ _ _ _ = K
 refine EvC.reg ?_
 refine EvO.mv (.inl rfl) rfl (ev rfl) (put_T rfl _) ?_
 obtain ⟨_,st1,hev,ka,rfl,hH⟩ := mnew_ev hF hH
 refine EvO.hcall rfl rfl hev (put_T rfl _) ?_
 refine EvO.mv (.inl rfl) rfl (ev rfl) (put_T rfl _) ?_
 refine EvO.go rfl rfl rfl (put_T rfl _) ?_
 refine EvO.go rfl rfl rfl (put_T rfl _) ?_
 refine EvO.go rfl rfl rfl (put_T rfl _) ?_
 refine EvO.pfield (fo := 5) (m := 0) (o := 5) rfl (ev rfl) rfl rfl rfl (put_T rfl _) ?_
 refine EvO.hstore hH rfl (ev rfl) (ev rfl) (by first | rfl | exact (SlD.cells (by assumption)).1 | exact hH.ocells (by first | exact at0 | exact at1 | exact at2 | exact at3 | exact at4 | exact at5 | exact at6 | exact at7) | exact hH.dcells (by first | exact at0 | exact at1 | exact at2 | exact at3 | exact at4 | exact at5 | exact at6 | exact at7) | assumption) (by exact rfl) (by first | exact at0 | exact at1 | exact at2 | exact at3 | exact at4 | exact at5 | exact at6 | exact at7) (by exact Nat.le_of_ble_eq_true rfl) (by first | exact .inl hF | exact .inr rfl | exact .inr (by assumption)) (fun st hH => ?_)
 try dsimp only [List.set_cons_zero,List.set_cons_succ,List.cons_append,List.nil_append,setMany,List.map_cons,List.map_nil,D.cells,Nat.reduceAdd,List.nil_append] at hH
 refine EvO.nil ?_
 try subst hK
 try change EvC _ _ _ _ _ _
 have hH : Has N S st (.box ka (.mem 0 false [.junk, .bool false]) :: .box k41 (.mem 0 false [.ptr ky 0 0, .pnil, .ptr kl 0 0, .ptr kj 0 0, .ptr kp 0 0, .ptr ka 0 0]) :: .box kp (.mem 0 false [.nul]) :: .box kj (.mem 0 false [.ptr kd 0 0, .ptr ks 0 0]) :: .box ks (.mem 0 false [.nul]) :: .box kd (.mem 0 false [.ptr kn 0 0,a2,a3]) :: .box kn (.mem 0 false [.nul]) :: .box kl (.mem 0 false [.ptr kd 0 0, .nul, .mp km]) :: .box km (.map (mapC [])) :: H) := hH
 try change EvC _ _ _ _ _ _
 repeat refine EvC.seq ?_
 try generalize hK : SeqQ _ _ _ _ = K
 refine EvC.reg ?_
 refine EvO.mv (.inl rfl) rfl (ev rfl) (put_T rfl _) ?_
 refine EvO.hcall rfl rfl (jget_ev (hH.at at3) (hH.at at4)) (put_T rfl _) ?_
 refine EvO.mv (.inr rfl) rfl (ev rfl) (by dsimp only [Fr.put,List.set_cons_succ,List.set_cons_zero] <;> rfl) ?_
 refine EvO.nil ?_
 try subst hK
 try change EvC _ _ _ _ _ _
 try change EvC _ _ _ _ _ _
 repeat refine EvC.seq ?_
 try generalize hK : SeqQ _ _ _ _ = K
 refine EvC.reg ?_
 refine EvO.mv (.inl rfl) rfl (ev rfl) (put_T rfl _) ?_
 refine EvO.go (d := .bool false) (st1 := _) rfl rfl rfl (put_T rfl _) ?_
 refine EvO.nil ?_
 try subst hK
 try change EvC _ _ _ _ _ _
 try change EvC _ _ _ _ _ _
 repeat refine EvC.seq ?_
 refine EvC.cond (v := false) (by first | rfl | assumption) (fun h => by cases h) (fun _ => ?_)
 try change EvC _ _ _ _ _ _
 refine EvC.skip ?_
 try change EvC _ _ _ _ _ _
 have hH : Has N S st (.box k41 (.mem 0 false [.ptr ky 0 0, .pnil, .ptr kl 0 0, .ptr kj 0 0, .ptr kp 0 0, .ptr ka 0 0]) :: .box kj (.mem 0 false [.ptr kd 0 0, .ptr ks 0 0]) :: .box ks (.mem 0 false [.nul]) :: .box kp (.mem 0 false [.nul]) :: .box kd (.mem 0 false [.ptr kn 0 0,a2,a3]) :: .box kn (.mem 0 false [.nul]) :: .box kl (.mem 0 false [.ptr kd 0 0, .nul, .mp km]) :: .box km (.map (mapC [])) :: H) := Has.rot [_,_] [_] (Has.rot [_,_] [_,_] (hH.erase 0))
 try change EvC _ _ _ _ _ _
 repeat refine EvC.seq ?_
 try generalize hK : SeqQ _ _ _ _ = K
 refine EvC.reg ?_
 refine EvO.mv (.inl rfl) rfl (ev rfl) (put_T rfl _) ?_
 obtain ⟨_,st1,hev,rfl,hH⟩ := fread_ev hF hH
 refine EvO.hcall rfl rfl hev (put_T rfl _) ?_
 refine EvO.mv (.inr rfl) rfl (ev rfl) (by dsimp only [Fr.put,List.set_cons_succ,List.set_cons_zero] <;> rfl) ?_
 refine EvO.nil ?_
 try subst hK
 try change EvC _ _ _ _ _ _
 try change EvC _ _ _ _ _ _
 repeat refine EvC.seq ?_
 try generalize hK : SeqQ _ _ _ _ = K
 refine EvC.reg ?_
 refine EvO.mv (.inl rfl) rfl (ev rfl) (put_T rfl _) ?_
 refine EvO.go (d := .bool false) (st1 := _) rfl rfl rfl (put_T rfl _) ?_
 refine EvO.nil ?_
 try subst hK
 try change EvC _ _ _ _ _ _
 try change EvC _ _ _ _ _ _
 repeat refine EvC.seq ?_
 refine EvC.cond (v := false) (by first | rfl | assumption) (fun h => by cases h) (fun _ => ?_)
 try change EvC _ _ _ _ _ _
 refine EvC.skip ?_
 try change EvC _ _ _ _ _ _
 try change EvC _ _ _ _ _ _
 repeat refine EvC.seq ?_
 try generalize hK : SeqQ _ _ _ _ = K
 refine EvC.reg ?_
 refine EvO.mv (.inl rfl) rfl (ev rfl) (put_T rfl _) ?_
 refine EvO.mv (.inr rfl) rfl (ev rfl) (by dsimp only [Fr.put,List.set_cons_succ,List.set_cons_zero] <;> rfl) ?_
 refine EvO.mv (.inr rfl) rfl (ev rfl) (by dsimp only [Fr.put,List.set_cons_succ,List.set_cons_zero] <;> rfl) ?_
 refine EvO.nil ?_
 try subst hK
 try change EvC _ _ _ _ _ _
 refine EvC.ret ⟨fun i h => (by cases h),_,_,_,rfl,rfl,?_⟩
 exact ⟨_,_,_,_,_,_,_,rfl,hH⟩
def ixF_Tg (fr : Go.V.Fr) (k : Nat) : Go.V.D := Go.V.nth .junk fr.loc k
theorem copied_ev {N : Nat} {S s0 : St} {H : List Ent} {kn : Nat} (hF : S.flr <= N) (hH : Has N S s0 (.box kn (.mem 0 false [.nul]) :: H)) :
  ∃ d st',Ev pv 42 [.ptr kn 0 0] s0 d st' /\ ∃ km,d = .ptr km 0 0 /\ Has N S st' (.box km (.mem 0 false [.nul]) :: .box kn (.mem 0 false [.nul]) :: H) := by
 refine Ev.mkE rfl fi42 rfl rfl rfl ?_
 dsimp only [List.cons_append,List.nil_append,List.length,Nat.reduceSub,Nat.reduceAdd,List.replicate_succ,List.replicate_zero]
 change EvC _ _ _ _ s0 _
 try change EvC _ _ _ _ _ _
 repeat refine EvC.seq ?_
 try generalize hK : SeqQ _ _ _ _ = K
 refine EvC.reg ?_
 refine EvO.mv (.inr rfl) rfl (ev rfl) (by dsimp only [Fr.put,List.set_cons_succ,List.set_cons_zero] <;> rfl) ?_
 refine EvO.nil ?_
 try subst hK
 try change EvC _ _ _ _ _ _
 try change EvC _ _ _ _ _ _
 repeat refine EvC.seq ?_
 try generalize hK : SeqQ _ _ _ _ = K
 refine EvC.reg ?_
 obtain ⟨_,st1,hev,km,rfl,hH⟩ := tnC_ev hF hH
 refine EvO.hcall rfl rfl hev (by dsimp only [Fr.put,List.set_cons_succ,List.set_cons_zero] <;> rfl) ?_
 refine EvO.mv (.inr rfl) rfl (ev rfl) (by dsimp only [Fr.put,List.set_cons_succ,List.set_cons_zero] <;> rfl) ?_
 refine EvO.nil ?_
 try subst hK
 try change EvC _ _ _ _ _ _
 try change EvC _ _ _ _ _ _
 repeat refine EvC.seq ?_
 try generalize hK : SeqQ _ _ _ _ = K
 refine EvC.reg ?_
 refine EvO.mv (.inl rfl) rfl (ev rfl) (by dsimp only [Fr.put,List.set_cons_succ,List.set_cons_zero] <;> rfl) ?_
 refine EvO.hcall rfl rfl (lenC_ev (hH.at at1)) (by dsimp only [Fr.put,List.set_cons_succ,List.set_cons_zero] <;> rfl) ?_
 refine EvO.mv (.inl rfl) rfl (ev rfl) (by dsimp only [Fr.put,List.set_cons_succ,List.set_cons_zero] <;> rfl) ?_
 refine EvO.nil ?_
 try subst hK
 try change EvC _ _ _ _ _ _
 try change EvC _ _ _ _ _ _
 repeat refine EvC.seq ?_
 refine EvC.block ?_
 refine EvC.loop (fun mm fr st => ∃ (u : Nat),fr.clean = ⟨12, [.ptr kn 0 0,ixF_Tg fr 1,ixF_Tg fr 2, .ptr km 0 0,ixF_Tg fr 4,ixF_Tg fr 5,ixF_Tg fr 6,ixF_Tg fr 7,ixF_Tg fr 8,ixF_Tg fr 9, .int .i64 0, .int .i64 0], []⟩ /\ Has N S st (.box km (.mem 0 false [.nul]) :: .box kn (.mem 0 false [.nul]) :: H) /\ (u = 0)) (0) ?_ ?_
 ·exact ⟨0,rfl,hH,rfl⟩
 rintro mm fr st ⟨u,hfr,hH,hu⟩
 rw [hfr]
 clear hfr
 try generalize ixF_Tg fr = ee
 clear fr
 try change EvC _ _ _ _ _ _
 try change EvC _ _ _ _ _ _
 repeat refine EvC.seq ?_
 try generalize hK : SeqQ _ _ _ _ = K
 refine EvC.reg ?_
 refine EvO.go rfl rfl rfl (put_T rfl _) ?_
 refine EvO.nil ?_
 try subst hK
 try change EvC _ _ _ _ _ _
 try change EvC _ _ _ _ _ _
 repeat refine EvC.seq ?_
 refine EvC.cond (by first | rfl | assumption) (fun hlt => ?_) (fun hlt => ?_) <;> try simp only [decide_eq_true_eq,decide_eq_false_iff_not,beq_iff_eq,beq_eq_false_iff_ne,bne_iff_ne,bne_eq_false_iff_eq,ne_eq,Bool.not_eq_true',Bool.not_eq_false',Bool.not_eq_true,Bool.not_eq_false] at hlt
 ·omega
 ·try change EvC _ _ _ _ _ _
  refine EvC.exit ?_
  try change EvC _ _ _ _ _ _
  try change EvC _ _ _ _ _ _
  repeat refine EvC.seq ?_
  try generalize hK : SeqQ _ _ _ _ = K
  refine EvC.reg ?_
  refine EvO.mv (.inl rfl) rfl (ev rfl) (put_T rfl _) ?_
  refine EvO.mv (.inr rfl) rfl (ev rfl) (by dsimp only [Fr.put,List.set_cons_succ,List.set_cons_zero] <;> rfl) ?_
  refine EvO.nil ?_
  try subst hK
  try change EvC _ _ _ _ _ _
  refine EvC.ret ⟨fun i h => (by cases h),_,_,_,rfl,rfl,?_⟩
  exact ⟨_,rfl,hH⟩
theorem mark_ev {N : Nat} {S s0 : St} {H : List Ent} {kd kn : Nat} {a2 a3 : D} (hF : S.flr <= N) (hH : Has N S s0 (.box kd (.mem 0 false [.ptr kn 0 0,a2,a3]) :: .box kn (.mem 0 false [.nul]) :: H)) :
  ∃ d st',Ev pv 21 [.ptr kd 0 0] s0 d st' /\ ∃ km,Has N S st' (.box kd (.mem 0 false [.ptr kn 0 0, .ptr km 0 0, .nul]) :: .box kn (.mem 0 false [.nul]) :: .box km (.mem 0 false [.nul]) :: H) := by
 refine Ev.mkE rfl fi21 rfl rfl rfl ?_
 dsimp only [List.cons_append,List.nil_append,List.length,Nat.reduceSub,Nat.reduceAdd,List.replicate_succ,List.replicate_zero]
 change EvC _ _ _ _ s0 _
 have hH := Has.rot [_] [_] hH
 try change EvC _ _ _ _ _ _
 repeat refine EvC.seq ?_
 try generalize hK : SeqQ _ _ _ _ = K
 refine EvC.reg ?_
 refine EvO.mv (.inl rfl) rfl (ev rfl) (put_T rfl _) ?_
 refine EvO.mv (.inl rfl) rfl (ev rfl) (put_T rfl _) ?_
 refine EvO.go rfl rfl rfl (put_T rfl _) ?_
 refine EvO.pfield (fo := 0) (m := 0) (o := 0) rfl (ev rfl) rfl rfl rfl (put_T rfl _) ?_
 first | refine EvO.hload hH rfl (ev rfl) (by first | exact at0 | exact at1 | exact at2 | exact at3 | exact at4 | exact at5 | exact at6 | exact at7) rfl (put_T rfl _) ?_ | refine EvO.rload rfl (ev rfl) (by assumption) rfl (put_T rfl _) ?_ | refine EvO.oload hH rfl (ev rfl) (by assumption) (by first | exact at0 | exact at1 | exact at2 | exact at3 | exact at4 | exact at5 | exact at6 | exact at7) (by assumption) rfl (put_T rfl _) ?_
 obtain ⟨_,st1,hev,km,rfl,hH⟩ := copied_ev hF hH
 refine EvO.hcall rfl rfl hev (put_T rfl _) ?_
 refine EvO.go rfl rfl rfl (put_T rfl _) ?_
 refine EvO.pfield (fo := 1) (m := 0) (o := 1) rfl (ev rfl) rfl rfl rfl (put_T rfl _) ?_
 refine EvO.hstore hH rfl (ev rfl) (ev rfl) (by first | rfl | exact (SlD.cells (by assumption)).1 | exact hH.ocells (by first | exact at0 | exact at1 | exact at2 | exact at3 | exact at4 | exact at5 | exact at6 | exact at7) | exact hH.dcells (by first | exact at0 | exact at1 | exact at2 | exact at3 | exact at4 | exact at5 | exact at6 | exact at7) | assumption) (by exact rfl) (by first | exact at0 | exact at1 | exact at2 | exact at3 | exact at4 | exact at5 | exact at6 | exact at7) (by exact Nat.le_of_ble_eq_true rfl) (by first | exact .inl hF | exact .inr rfl | exact .inr (by assumption)) (fun st hH => ?_)
 try dsimp only [List.set_cons_zero,List.set_cons_succ,List.cons_append,List.nil_append,setMany,List.map_cons,List.map_nil,D.cells,Nat.reduceAdd,List.nil_append] at hH
 refine EvO.nil ?_
 try subst hK
 try change EvC _ _ _ _ _ _
 try change EvC _ _ _ _ _ _
 repeat refine EvC.seq ?_
 try generalize hK : SeqQ _ _ _ _ = K
 refine EvC.reg ?_
 refine EvO.mv (.inl rfl) rfl (ev rfl) (put_T rfl _) ?_
 refine EvO.go rfl rfl rfl (put_T rfl _) ?_
 refine EvO.pfield (fo := 2) (m := 0) (o := 2) rfl (ev rfl) rfl rfl rfl (put_T rfl _) ?_
 refine EvO.hstore hH rfl (ev rfl) (ev rfl) (by first | rfl | exact (SlD.cells (by assumption)).1 | exact hH.ocells (by first | exact at0 | exact at1 | exact at2 | exact at3 | exact at4 | exact at5 | exact at6 | exact at7) | exact hH.dcells (by first | exact at0 | exact at1 | exact at2 | exact at3 | exact at4 | exact at5 | exact at6 | exact at7) | assumption) (by exact rfl) (by first | exact at0 | exact at1 | exact at2 | exact at3 | exact at4 | exact at5 | exact at6 | exact at7) (by exact Nat.le_of_ble_eq_true rfl) (by first | exact .inl hF | exact .inr rfl | exact .inr (by assumption)) (fun st hH => ?_)
 try dsimp only [List.set_cons_zero,List.set_cons_succ,List.cons_append,List.nil_append,setMany,List.map_cons,List.map_nil,D.cells,Nat.reduceAdd,List.nil_append] at hH
 refine EvO.nil ?_
 try subst hK
 try change EvC _ _ _ _ _ _
 refine ⟨fun i h => (by cases h),_,_,_,rfl,rfl,?_⟩
 have hH : Has N S st (.box km (.mem 0 false [.nul]) :: .box kn (.mem 0 false [.nul]) :: .box kd (.mem 0 false [.ptr kn 0 0, .ptr km 0 0, .nul]) :: H) := hH
 exact ⟨km,Has.rot [_] [_] (Has.rot [_] [_,_] hH)⟩
theorem wopen_ev {N : Nat} {S s0 : St} {H : List Ent} {kw kd kn ky : Nat} {a2 a3 f : D} (hF : S.flr <= N) (hH : Has N S s0 (.box kw (.mem 0 false [.ptr ky 0 0, .ptr kd 0 0,f]) :: .box kd (.mem 0 false [.ptr kn 0 0,a2,a3]) :: .box kn (.mem 0 false [.nul]) :: H)) :
  ∃ d st',Ev pv 18 [.ptr kw 0 0] s0 d st' /\ ∃ kF kl km kj ks kp ka,d = .agg [.int .i64 0, .int .i64 0, .nul, .nul] /\ Has N S st' (.box kw (.mem 0 false [.ptr ky 0 0, .ptr kd 0 0, .ptr kF 0 0]) :: .box kF (.mem 0 false [.ptr ky 0 0, .pnil, .ptr kl 0 0, .ptr kj 0 0, .ptr kp 0 0, .ptr ka 0 0]) :: .box kj (.mem 0 false [.ptr kd 0 0, .ptr ks 0 0]) :: .box ks (.mem 0 false [.nul]) :: .box kp (.mem 0 false [.nul]) :: .box kd (.mem 0 false [.ptr kn 0 0,a2,a3]) :: .box kn (.mem 0 false [.nul]) :: .box kl (.mem 0 false [.ptr kd 0 0, .nul, .mp km]) :: .box km (.map (mapC [])) :: H) := by
 refine Ev.mkE rfl fi18 rfl rfl rfl ?_
 dsimp only [List.cons_append,List.nil_append,List.length,Nat.reduceSub,Nat.reduceAdd,List.replicate_succ,List.replicate_zero]
 change EvC _ _ _ _ s0 _
 try change EvC _ _ _ _ _ _
 repeat refine EvC.seq ?_
 try generalize hK : SeqQ _ _ _ _ = K
 refine EvC.reg ?_
 refine EvO.halloc hH rfl rfl (fun _ => by dsimp only [Fr.put,List.set_cons_succ,List.set_cons_zero] <;> rfl) (fun k2 st hk2 hH => ?_)
 try dsimp only [List.set_cons_zero,List.set_cons_succ,List.cons_append,List.nil_append,setMany,List.map_cons,List.map_nil,D.cells,Nat.reduceAdd,List.nil_append] at hH
 refine EvO.nil ?_
 try subst hK
 try change EvC _ _ _ _ _ _
 have hH : Has N S st (.box kd (.mem 0 false [.ptr kn 0 0,a2,a3]) :: .box kn (.mem 0 false [.nul]) :: .box k2 (.mem 0 false [.int .i64 0, .int .i64 0, .nul, .nul]) :: .box kw (.mem 0 false [.ptr ky 0 0, .ptr kd 0 0,f]) :: H) := Has.rot [_,_] [_,_] hH
 try change EvC _ _ _ _ _ _
 repeat refine EvC.seq ?_
 try generalize hK : SeqQ _ _ _ _ = K
 refine EvC.reg ?_
 refine EvO.mv (.inl rfl) rfl (ev rfl) (put_T rfl _) ?_
 refine EvO.go rfl rfl rfl (put_T rfl _) ?_
 refine EvO.pfield (fo := 1) (m := 0) (o := 1) rfl (ev rfl) rfl rfl rfl (put_T rfl _) ?_
 refine EvO.hload hH rfl (ev rfl) at3 rfl (put_T rfl _) ?_
 refine EvO.mv (.inl rfl) rfl (ev rfl) (put_T rfl _) ?_
 refine EvO.go rfl rfl rfl (put_T rfl _) ?_
 refine EvO.pfield (fo := 0) (m := 0) (o := 0) rfl (ev rfl) rfl rfl rfl (put_T rfl _) ?_
 refine EvO.hload hH rfl (ev rfl) at3 rfl (put_T rfl _) ?_
 obtain ⟨_,st1,hev,kF,kl,km,kj,ks,kp,ka,rfl,hH⟩ := fopen_ev hF hH
 refine EvO.hcall rfl rfl hev (put_T rfl _) ?_
 refine EvO.mv (.inl rfl) rfl (ev rfl) (put_T rfl _) ?_
 refine EvO.go rfl rfl rfl (put_T rfl _) ?_
 refine EvO.go rfl rfl rfl (put_T rfl _) ?_
 refine EvO.mv (.inr rfl) rfl (ev rfl) (by dsimp only [Fr.put,List.set_cons_succ,List.set_cons_zero] <;> rfl) ?_
 refine EvO.mv (.inr rfl) rfl (ev rfl) (by dsimp only [Fr.put,List.set_cons_succ,List.set_cons_zero] <;> rfl) ?_
 refine EvO.nil ?_
 try subst hK
 try change EvC _ _ _ _ _ _
 have hH : Has N S st1 (.box k2 (.mem 0 false [.int .i64 0, .int .i64 0, .nul, .nul]) :: .box kw (.mem 0 false [.ptr ky 0 0, .ptr kd 0 0,f]) :: .box kF (.mem 0 false [.ptr ky 0 0, .pnil, .ptr kl 0 0, .ptr kj 0 0, .ptr kp 0 0, .ptr ka 0 0]) :: .box kj (.mem 0 false [.ptr kd 0 0, .ptr ks 0 0]) :: .box ks (.mem 0 false [.nul]) :: .box kp (.mem 0 false [.nul]) :: .box kd (.mem 0 false [.ptr kn 0 0,a2,a3]) :: .box kn (.mem 0 false [.nul]) :: .box kl (.mem 0 false [.ptr kd 0 0, .nul, .mp km]) :: .box km (.map (mapC [])) :: H) := Has.rot [_,_,_,_,_,_,_,_] [_,_] hH
 try change EvC _ _ _ _ _ _
 repeat refine EvC.seq ?_
 try generalize hK : SeqQ _ _ _ _ = K
 refine EvC.reg ?_
 refine EvO.mv (.inl rfl) rfl (ev rfl) (put_T rfl _) ?_
 refine EvO.mv (.inl rfl) rfl (ev rfl) (put_T rfl _) ?_
 refine EvO.go rfl rfl rfl (put_T rfl _) ?_
 refine EvO.pfield (fo := 2) (m := 0) (o := 2) rfl (ev rfl) rfl rfl rfl (put_T rfl _) ?_
 refine EvO.hstore hH rfl (ev rfl) (ev rfl) (by first | rfl | exact (SlD.cells (by assumption)).1 | exact hH.ocells (by first | exact at0 | exact at1 | exact at2 | exact at3 | exact at4 | exact at5 | exact at6 | exact at7) | exact hH.dcells (by first | exact at0 | exact at1 | exact at2 | exact at3 | exact at4 | exact at5 | exact at6 | exact at7) | assumption) (by exact rfl) (by first | exact at0 | exact at1 | exact at2 | exact at3 | exact at4 | exact at5 | exact at6 | exact at7) (by exact Nat.le_of_ble_eq_true rfl) (by first | exact .inl hF | exact .inr rfl | exact .inr (by assumption)) (fun st hH => ?_)
 try dsimp only [List.set_cons_zero,List.set_cons_succ,List.cons_append,List.nil_append,setMany,List.map_cons,List.map_nil,D.cells,Nat.reduceAdd,List.nil_append] at hH
 refine EvO.nil ?_
 try subst hK
 try change EvC _ _ _ _ _ _
 try change EvC _ _ _ _ _ _
 repeat refine EvC.seq ?_
 try generalize hK : SeqQ _ _ _ _ = K
 refine EvC.reg ?_
 refine EvO.mv (.inl rfl) rfl (ev rfl) (put_T rfl _) ?_
 refine EvO.go rfl rfl rfl (put_T rfl _) ?_
 refine EvO.hstoreA hH rfl (ev rfl) (ev rfl) (by first | rfl | exact (SlD.cells (by assumption)).1 | exact hH.ocells (by first | exact at0 | exact at1 | exact at2 | exact at3 | exact at4 | exact at5 | exact at6 | exact at7) | exact hH.dcells (by first | exact at0 | exact at1 | exact at2 | exact at3 | exact at4 | exact at5 | exact at6 | exact at7) | assumption) (by exact rfl) (by first | exact at0 | exact at1 | exact at2 | exact at3 | exact at4 | exact at5 | exact at6 | exact at7) (by exact rfl) (by first | exact .inl hF | exact .inr rfl | exact .inr (by assumption)) (fun st hH => ?_)
 try dsimp only [List.set_cons_zero,List.set_cons_succ,List.cons_append,List.nil_append,setMany,List.map_cons,List.map_nil,D.cells,Nat.reduceAdd,List.nil_append] at hH
 refine EvO.nil ?_
 try subst hK
 try change EvC _ _ _ _ _ _
 refine EvC.ret ⟨fun i h => (by cases h),_,_,_,hH.resCell rfl at0 rfl,rfl,?_⟩
 exact ⟨_,_,_,_,_,_,_,rfl,hH.erase 0⟩
theorem wnew_ev {N : Nat} {S s0 : St} {H : List Ent} (hF : S.flr <= N) (hH : Has N S s0 H) :
  ∃ d st',Ev pv 4 [] s0 d st' /\ ∃ kw ky kf kt kd kn km kF kl kq kj ks kp ka,d = .ptr kw 0 0 /\ Has N S st' (.box kw (.mem 0 false [.ptr ky 0 0, .ptr kd 0 0, .ptr kF 0 0]) :: .box kF (.mem 0 false [.ptr ky 0 0, .pnil, .ptr kl 0 0, .ptr kj 0 0, .ptr kp 0 0, .ptr ka 0 0]) :: .box kj (.mem 0 false [.ptr kd 0 0, .ptr ks 0 0]) :: .box ks (.mem 0 false [.nul]) :: .box kp (.mem 0 false [.nul]) :: .box kd (.mem 0 false [.ptr kn 0 0, .ptr km 0 0, .nul]) :: .box kn (.mem 0 false [.nul]) :: .box kl (.mem 0 false [.ptr kd 0 0, .nul, .mp kq]) :: .box kq (.map (mapC [])) :: .box km (.mem 0 false [.nul]) :: .box ky (.mem 0 false [.ptr kf 0 0, .ptr kt 0 0]) :: .box kt (.mem 0 false [.nul]) :: .box kf (.mem 0 false [.nul]) :: H) := by
 refine Ev.mkE rfl fi4 rfl rfl rfl ?_
 dsimp only [List.cons_append,List.nil_append,List.length,Nat.reduceSub,Nat.reduceAdd,List.replicate_succ,List.replicate_zero]
 change EvC _ _ _ _ s0 _
 try change EvC _ _ _ _ _ _
 repeat refine EvC.seq ?_
 try generalize hK : SeqQ _ _ _ _ = K
 refine EvC.reg ?_
 refine EvO.mv (.inr rfl) rfl (ev rfl) (by dsimp only [Fr.put,List.set_cons_succ,List.set_cons_zero] <;> rfl) ?_
 refine EvO.nil ?_
 try subst hK
 try change EvC _ _ _ _ _ _
 try change EvC _ _ _ _ _ _
 repeat refine EvC.seq ?_
 try generalize hK : SeqQ _ _ _ _ = K
 refine EvC.reg ?_
 obtain ⟨_,st1,hev,ky,kf,kt,rfl,hH⟩ := ynew_ev hF hH
 refine EvO.hcall rfl rfl hev (put_T rfl _) ?_
 obtain ⟨_,st2,hev,kd,kn,km,rfl,hH⟩ := dnew_ev hF hH
 refine EvO.hcall rfl rfl hev (put_T rfl _) ?_
 refine EvO.go rfl rfl rfl (put_T rfl _) ?_
 refine EvO.hbox hH rfl rfl (fun _ => (put_T rfl _)) (fun k5 st hk5 hH => ?_)
 try dsimp only [List.set_cons_zero,List.set_cons_succ,List.cons_append,List.nil_append,setMany,List.map_cons,List.map_nil,D.cells,Nat.reduceAdd,List.nil_append] at hH
 refine EvO.mv (.inr rfl) rfl (ev rfl) (by dsimp only [Fr.put,List.set_cons_succ,List.set_cons_zero] <;> rfl) ?_
 refine EvO.nil ?_
 try subst hK
 try change EvC _ _ _ _ _ _
 have hH : Has N S st (.box k5 (.mem 0 false [.ptr ky 0 0, .ptr kd 0 0, .pnil]) :: .box kd (.mem 0 false [.ptr kn 0 0, .ptr km 0 0, .nul]) :: .box kn (.mem 0 false [.nul]) :: .box km (.mem 0 false [.nul]) :: .box ky (.mem 0 false [.ptr kf 0 0, .ptr kt 0 0]) :: .box kt (.mem 0 false [.nul]) :: .box kf (.mem 0 false [.nul]) :: H) := Has.rot [_] [_,_] (Has.rot [_,_,_] [_] hH)
 try change EvC _ _ _ _ _ _
 repeat refine EvC.seq ?_
 try generalize hK : SeqQ _ _ _ _ = K
 refine EvC.reg ?_
 refine EvO.mv (.inl rfl) rfl (ev rfl) (put_T rfl _) ?_
 obtain ⟨_,st1,hev,kF,kl,kq,kj,ks,kp,ka,rfl,hH⟩ := wopen_ev hF hH
 refine EvO.hcall rfl rfl hev (put_T rfl _) ?_
 refine EvO.nil ?_
 try subst hK
 try change EvC _ _ _ _ _ _
 try change EvC _ _ _ _ _ _
 repeat refine EvC.seq ?_
 try generalize hK : SeqQ _ _ _ _ = K
 refine EvC.reg ?_
 refine EvO.mv (.inl rfl) rfl (ev rfl) (put_T rfl _) ?_
 refine EvO.mv (.inr rfl) rfl (ev rfl) (by dsimp only [Fr.put,List.set_cons_succ,List.set_cons_zero] <;> rfl) ?_
 refine EvO.nil ?_
 try subst hK
 try change EvC _ _ _ _ _ _
 refine EvC.ret ⟨fun i h => (by cases h),_,_,_,rfl,rfl,?_⟩
 exact ⟨_,_,_,_,_,_,_,_,_,_,_,_,_,_,rfl,hH⟩
def ixF_Ti (fr : Go.V.Fr) (k : Nat) : Go.V.D := Go.V.nth .junk fr.loc k
theorem named_ev {s0 : St} {s : List UInt8} (hl : s.length <= 1048576) : ∃ d,Ev pv 43 [.str s] s0 d s0 /\ ∃ b,d = .bool b := by
 refine Ev.mkR rfl fi43 rfl rfl rfl ?_
 dsimp only [List.cons_append,List.nil_append,List.length,Nat.reduceSub,Nat.reduceAdd,List.replicate_succ,List.replicate_zero]
 have hSb : (enterSt .ro s0).bs = s0.bs := rfl
 have hF : (enterSt .ro s0).flr <= s0.bs.length := Nat.le_refl _
 have hH : Has s0.bs.length (enterSt .ro s0) (enterSt .ro s0) [] := Has.start (Nat.le_refl _) (Nat.le_refl _)
 generalize enterSt .ro s0 = S at *
 try change EvC _ _ _ _ _ _
 repeat refine EvC.seq ?_
 try generalize hK : SeqQ _ _ _ _ = K
 refine EvC.reg ?_
 refine EvO.mv (.inr rfl) rfl (ev rfl) (by dsimp only [Fr.put,List.set_cons_succ,List.set_cons_zero] <;> rfl) ?_
 refine EvO.nil ?_
 try subst hK
 try change EvC _ _ _ _ _ _
 try change EvC _ _ _ _ _ _
 repeat refine EvC.seq ?_
 refine EvC.cutL 11 (.bool (decide (((s.length : Nat) : Int) < 1) || decide (((s.length : Nat) : Int) > 32))) [4,5,6,7,8,9,10] ?_ (fun ff tmp => ?_)
 ·refine EvO.mv (.inl rfl) rfl (ev rfl) (by dsimp only [Fr.put,List.set_cons_succ,List.set_cons_zero] <;> rfl) ?_
  first | refine EvO.rlen rfl (ev rfl) (Arg.rows (by assumption) hH) rfl (by dsimp only [Fr.put,List.set_cons_succ,List.set_cons_zero] <;> rfl) ?_ | refine EvO.rlen rfl (ev rfl) (hH.rows (by first | exact at0 | exact at1 | exact at2 | exact at3 | exact at4 | exact at5 | exact at6 | exact at7)) rfl (by dsimp only [Fr.put,List.set_cons_succ,List.set_cons_zero] <;> rfl) ?_ | refine EvO.slen rfl rfl rfl (by dsimp only [Fr.put,List.set_cons_succ,List.set_cons_zero] <;> rfl) ?_ | refine EvO.go rfl rfl rfl (by dsimp only [Fr.put,List.set_cons_succ,List.set_cons_zero] <;> rfl) ?_
  try simp only [List.length_map,List.length_append,List.length_cons,List.length_nil,List.length_set,List.length_replicate,List.length_reverse]
  refine EvO.go rfl rfl rfl (by dsimp only [Fr.put,List.set_cons_succ,List.set_cons_zero] <;> rfl) ?_
  refine EvO.mv (.inl rfl) rfl (ev rfl) (by dsimp only [Fr.put,List.set_cons_succ,List.set_cons_zero] <;> rfl) ?_
  refine EvO.two 7 rfl (fun hg3 => ?_) (fun hg3 => ?_)
  ·refine EvO.skip (wantD_not rfl rfl rfl hg3) (by dsimp only [Fr.put,List.set_cons_succ,List.set_cons_zero] <;> rfl) ?_
   refine EvO.skip (wantD_not rfl rfl rfl hg3) (by dsimp only [Fr.put,List.set_cons_succ,List.set_cons_zero] <;> rfl) ?_
   refine EvO.skip (wantD_not rfl rfl rfl hg3) (by dsimp only [Fr.put,List.set_cons_succ,List.set_cons_zero] <;> rfl) ?_
   refine EvO.pickT rfl rfl hg3 (by dsimp only [Fr.put,List.set_cons_succ,List.set_cons_zero] <;> rfl) ?_
   refine EvO.nil (leafL ?_)
   try dsimp only [setW,List.foldl_cons,List.foldl_nil,nth,List.set_cons_zero,List.set_cons_succ]
   try dsimp only [Fr.putO,Fr.put,Fr.clean,Fr.ev,Fr.get,nth,Go.V.look,List.set_cons_succ,List.set_cons_zero,ofVal_int,ofVal_bool,ofVal_str,ofVal_nul,ofVal_pnil,ofVal_nilfn,ofVal_nilif,List.length,List.cons_append,List.nil_append,List.append_nil,Nat.reduceSub,Nat.reduceAdd,List.map,List.map_cons,List.map_nil]
   all_goals (first | rfl | (simp [hg3]; done) | (simp_all; done) | (simp [hg3]; omega) | (simp_all; omega))
  ·refine EvO.mv (.inl rfl) (wantD_is rfl rfl rfl hg3) (ev rfl) (by dsimp only [Fr.put,List.set_cons_succ,List.set_cons_zero] <;> rfl) ?_
   first | refine EvO.rlen (wantD_is rfl rfl rfl hg3) (ev rfl) (Arg.rows (by assumption) hH) rfl (by dsimp only [Fr.put,List.set_cons_succ,List.set_cons_zero] <;> rfl) ?_ | refine EvO.rlen (wantD_is rfl rfl rfl hg3) (ev rfl) (hH.rows (by first | exact at0 | exact at1 | exact at2 | exact at3 | exact at4 | exact at5 | exact at6 | exact at7)) rfl (by dsimp only [Fr.put,List.set_cons_succ,List.set_cons_zero] <;> rfl) ?_ | refine EvO.slen (wantD_is rfl rfl rfl hg3) rfl rfl (by dsimp only [Fr.put,List.set_cons_succ,List.set_cons_zero] <;> rfl) ?_ | refine EvO.go (wantD_is rfl rfl rfl hg3) rfl rfl (by dsimp only [Fr.put,List.set_cons_succ,List.set_cons_zero] <;> rfl) ?_
   try simp only [List.length_map,List.length_append,List.length_cons,List.length_nil,List.length_set,List.length_replicate,List.length_reverse]
   refine EvO.go (wantD_is rfl rfl rfl hg3) rfl rfl (by dsimp only [Fr.put,List.set_cons_succ,List.set_cons_zero] <;> rfl) ?_
   refine EvO.pickF rfl rfl hg3 (by dsimp only [Fr.put,List.set_cons_succ,List.set_cons_zero] <;> rfl) ?_
   refine EvO.nil (leafL ?_)
   try dsimp only [setW,List.foldl_cons,List.foldl_nil,nth,List.set_cons_zero,List.set_cons_succ]
   try dsimp only [Fr.putO,Fr.put,Fr.clean,Fr.ev,Fr.get,nth,Go.V.look,List.set_cons_succ,List.set_cons_zero,ofVal_int,ofVal_bool,ofVal_str,ofVal_nul,ofVal_pnil,ofVal_nilfn,ofVal_nilif,List.length,List.cons_append,List.nil_append,List.append_nil,Nat.reduceSub,Nat.reduceAdd,List.map,List.map_cons,List.map_nil]
   all_goals (first | rfl | (simp [hg3]; done) | (simp_all; done) | (simp [hg3]; omega) | (simp_all; omega))
 try dsimp only [setW,List.foldl_cons,List.foldl_nil,nth,List.set_cons_zero,List.set_cons_succ]
 generalize ff 4 = e4
 generalize ff 5 = e5
 generalize ff 6 = e6
 generalize ff 7 = e7
 generalize ff 8 = e8
 generalize ff 9 = e9
 generalize ff 10 = e10
 try dsimp only [Fr.putO,Fr.put,Fr.clean,Fr.ev,Fr.get,nth,Go.V.look,List.set_cons_succ,List.set_cons_zero,ofVal_int,ofVal_bool,ofVal_str,ofVal_nul,ofVal_pnil,ofVal_nilfn,ofVal_nilif,List.length,List.cons_append,List.nil_append,List.append_nil,Nat.reduceSub,Nat.reduceAdd,List.map,List.map_cons,List.map_nil]
 try change EvC _ _ _ _ _ _
 try change EvC _ _ _ _ _ _
 repeat refine EvC.seq ?_
 refine EvC.cond (by first | rfl | assumption) (fun h1 => ?_) (fun h1 => ?_) <;> try simp only [decide_eq_true_eq,decide_eq_false_iff_not,beq_iff_eq,beq_eq_false_iff_ne,bne_iff_ne,bne_eq_false_iff_eq,ne_eq,Bool.not_eq_true',Bool.not_eq_false',Bool.not_eq_true,Bool.not_eq_false] at h1
 ·try change EvC _ _ _ _ _ _
  repeat refine EvC.seq ?_
  try generalize hK : SeqQ _ _ _ _ = K
  refine EvC.reg ?_
  refine EvO.mv (.inr rfl) rfl (ev rfl) (by dsimp only [Fr.put,List.set_cons_succ,List.set_cons_zero] <;> rfl) ?_
  refine EvO.nil ?_
  try subst hK
  try change EvC _ _ _ _ _ _
  refine EvC.ret ⟨fun i h => (by cases h),_,_,rfl,leave_ro (by simp) hSb hH (rfl),?_⟩
  exact ⟨_,rfl⟩
 ·refine EvC.skip ?_
  try change EvC _ _ _ _ _ _
  try change EvC _ _ _ _ _ _
  repeat refine EvC.seq ?_
  try generalize hK : SeqQ _ _ _ _ = K
  refine EvC.reg ?_
  refine EvO.mv (.inl rfl) rfl (ev rfl) (by dsimp only [Fr.put,List.set_cons_succ,List.set_cons_zero] <;> rfl) ?_
  first | refine EvO.rlen rfl (ev rfl) (Arg.rows (by assumption) hH) rfl (by dsimp only [Fr.put,List.set_cons_succ,List.set_cons_zero] <;> rfl) ?_ | refine EvO.rlen rfl (ev rfl) (hH.rows (by first | exact at0 | exact at1 | exact at2 | exact at3 | exact at4 | exact at5 | exact at6 | exact at7)) rfl (by dsimp only [Fr.put,List.set_cons_succ,List.set_cons_zero] <;> rfl) ?_ | refine EvO.slen rfl rfl rfl (by dsimp only [Fr.put,List.set_cons_succ,List.set_cons_zero] <;> rfl) ?_ | refine EvO.go rfl rfl rfl (by dsimp only [Fr.put,List.set_cons_succ,List.set_cons_zero] <;> rfl) ?_
  try simp only [List.length_map,List.length_append,List.length_cons,List.length_nil,List.length_set,List.length_replicate,List.length_reverse]
  refine EvO.mv (.inl rfl) rfl (ev rfl) (by dsimp only [Fr.put,List.set_cons_succ,List.set_cons_zero] <;> rfl) ?_
  refine EvO.nil ?_
  try subst hK
  try change EvC _ _ _ _ _ _
  try change EvC _ _ _ _ _ _
  repeat refine EvC.seq ?_
  refine EvC.block ?_
  refine EvC.loop (fun mm fr st => ∃ (i : Nat),fr.clean = ⟨15, [.str s,ixF_Ti fr 1,ixF_Ti fr 2,ixF_Ti fr 3,ixF_Ti fr 4,ixF_Ti fr 5,ixF_Ti fr 6,ixF_Ti fr 7,ixF_Ti fr 8,ixF_Ti fr 9,ixF_Ti fr 10,ixF_Ti fr 11,ixF_Ti fr 12, .int .i64 (s.length : Nat), .int .i64 (i : Nat)], []⟩ /\ Has s0.bs.length S st [] /\ (i + mm = s.length)) (s.length) ?_ ?_
  ·exact ⟨0,rfl,hH,by omega⟩
  rintro mm fr st ⟨i,hfr,hH,hi⟩
  rw [hfr]
  clear hfr
  try generalize ixF_Ti fr = ee
  clear fr
  try change EvC _ _ _ _ _ _
  try change EvC _ _ _ _ _ _
  repeat refine EvC.seq ?_
  try generalize hK : SeqQ _ _ _ _ = K
  refine EvC.reg ?_
  refine EvO.go rfl rfl rfl (put_T rfl _) ?_
  refine EvO.nil ?_
  try subst hK
  try change EvC _ _ _ _ _ _
  try change EvC _ _ _ _ _ _
  repeat refine EvC.seq ?_
  refine EvC.cond (by first | rfl | assumption) (fun h2 => ?_) (fun h2 => ?_) <;> try simp only [decide_eq_true_eq,decide_eq_false_iff_not,beq_iff_eq,beq_eq_false_iff_ne,bne_iff_ne,bne_eq_false_iff_eq,ne_eq,Bool.not_eq_true',Bool.not_eq_false',Bool.not_eq_true,Bool.not_eq_false] at h2
  ·refine EvC.skip ?_
   try change EvC _ _ _ _ _ _
   obtain ⟨c,hc⟩ : ∃ c,s[i]? = some c := ⟨s[i]'(by omega),List.getElem?_eq_getElem _⟩
   have hix : ∀ st : St,Option.map (fun d => (d,st)) (indexD pv 9 (.str s) (.int .i64 (i : Nat))) = some (.int .u8 (c.toNat : Nat),st) := fun st => by
    have hu : pv.und 9 = some .string := by kernel_rfl
    simp [indexD,hu,hc]
   try change EvC _ _ _ _ _ _
   repeat refine EvC.seq ?_
   refine EvC.block ?_
   try change EvC _ _ _ _ _ _
   repeat refine EvC.seq ?_
   try generalize hK : SeqQ _ _ _ _ = K
   refine EvC.reg ?_
   refine EvO.mv (.inl rfl) rfl (ev rfl) (put_T rfl _) ?_
   refine EvO.mv (.inr rfl) rfl (ev rfl) (by dsimp only [Fr.put,List.set_cons_succ,List.set_cons_zero] <;> rfl) ?_
   refine EvO.nil ?_
   try subst hK
   try change EvC _ _ _ _ _ _
   try change EvC _ _ _ _ _ _
   repeat refine EvC.seq ?_
   refine EvC.cutT 26 (.bool (decide (((c.toNat : Nat) : Int) < 33) || decide (((c.toNat : Nat) : Int) > 126))) [] ?_ (fun ff tmp htmp => ?_)
   ·refine EvO.mv (.inl rfl) rfl (ev rfl) (put_T rfl _) ?_
    refine EvO.mv (.inl rfl) rfl (ev rfl) (put_T rfl _) ?_
    refine EvO.go (d := .int .u8 (c.toNat : Nat)) (st1 := _) rfl rfl (by exact hix _) (put_T rfl _) ?_
    refine EvO.go rfl rfl rfl (put_T rfl _) ?_
    refine EvO.mv (.inl rfl) rfl (ev rfl) (put_T rfl _) ?_
    refine EvO.two 21 rfl (fun hg4 => ?_) (fun hg4 => ?_)
    ·refine EvO.skip (wantD_not rfl rfl rfl hg4) (put_T rfl _) ?_
     refine EvO.skip (wantD_not rfl rfl rfl hg4) (put_T rfl _) ?_
     refine EvO.skip (wantD_not rfl rfl rfl hg4) (put_T rfl _) ?_
     refine EvO.skip (wantD_not rfl rfl rfl hg4) (put_T rfl _) ?_
     refine EvO.pickT rfl rfl hg4 (put_T rfl _) ?_
     refine EvO.nil (leafT ?_ ?_)
     ·try dsimp only [setW,List.foldl_cons,List.foldl_nil,nth,List.set_cons_zero,List.set_cons_succ]
      all_goals (first | rfl | simp)
     ·try dsimp only [Fr.putO,Fr.put,Fr.clean,Fr.ev,Fr.get,nth,Go.V.look,List.set_cons_succ,List.set_cons_zero,ofVal_int,ofVal_bool,ofVal_str,ofVal_nul,ofVal_pnil,ofVal_nilfn,ofVal_nilif,List.length,List.cons_append,List.nil_append,List.append_nil,Nat.reduceSub,Nat.reduceAdd,List.map,List.map_cons,List.map_nil]
      all_goals (first | rfl | (simp [hg4]; done) | (simp_all; done) | (simp [hg4]; omega) | (simp_all; omega))
    ·refine EvO.mv (.inl rfl) (wantD_is rfl rfl rfl hg4) (ev rfl) (put_T rfl _) ?_
     refine EvO.mv (.inl rfl) (wantD_is rfl rfl rfl hg4) (ev rfl) (put_T rfl _) ?_
     refine EvO.go (d := .int .u8 (c.toNat : Nat)) (st1 := _) (wantD_is rfl rfl rfl hg4) rfl (by exact hix _) (put_T rfl _) ?_
     refine EvO.go (wantD_is rfl rfl rfl hg4) rfl rfl (put_T rfl _) ?_
     refine EvO.pickF rfl rfl hg4 (put_T rfl _) ?_
     refine EvO.nil (leafT ?_ ?_)
     ·try dsimp only [setW,List.foldl_cons,List.foldl_nil,nth,List.set_cons_zero,List.set_cons_succ]
      all_goals (first | rfl | simp)
     ·try dsimp only [Fr.putO,Fr.put,Fr.clean,Fr.ev,Fr.get,nth,Go.V.look,List.set_cons_succ,List.set_cons_zero,ofVal_int,ofVal_bool,ofVal_str,ofVal_nul,ofVal_pnil,ofVal_nilfn,ofVal_nilif,List.length,List.cons_append,List.nil_append,List.append_nil,Nat.reduceSub,Nat.reduceAdd,List.map,List.map_cons,List.map_nil]
      all_goals (first | rfl | (simp [hg4]; done) | (simp_all; done) | (simp [hg4]; omega) | (simp_all; omega))
   try dsimp only [setW,List.foldl_cons,List.foldl_nil,nth,List.set_cons_zero,List.set_cons_succ]
   try dsimp only [Fr.putO,Fr.put,Fr.clean,Fr.ev,Fr.get,nth,Go.V.look,List.set_cons_succ,List.set_cons_zero,ofVal_int,ofVal_bool,ofVal_str,ofVal_nul,ofVal_pnil,ofVal_nilfn,ofVal_nilif,List.length,List.cons_append,List.nil_append,List.append_nil,Nat.reduceSub,Nat.reduceAdd,List.map,List.map_cons,List.map_nil]
   try change EvC _ _ _ _ _ _
   try change EvC _ _ _ _ _ _
   repeat refine EvC.seq ?_
   refine EvC.cond (by first | rfl | assumption) (fun h3 => ?_) (fun h3 => ?_) <;> try simp only [decide_eq_true_eq,decide_eq_false_iff_not,beq_iff_eq,beq_eq_false_iff_ne,bne_iff_ne,bne_eq_false_iff_eq,ne_eq,Bool.not_eq_true',Bool.not_eq_false',Bool.not_eq_true,Bool.not_eq_false] at h3
   ·try change EvC _ _ _ _ _ _
    repeat refine EvC.seq ?_
    try generalize hK : SeqQ _ _ _ _ = K
    refine EvC.reg ?_
    refine EvO.mv (.inr rfl) rfl (ev rfl) (by dsimp only [Fr.put,List.set_cons_succ,List.set_cons_zero] <;> rfl) ?_
    refine EvO.nil ?_
    try subst hK
    try change EvC _ _ _ _ _ _
    refine EvC.ret ⟨fun i h => (by cases h),_,_,rfl,leave_ro (by simp) hSb hH (rfl),?_⟩
    exact ⟨_,rfl⟩
   ·refine EvC.skip ?_
    try change EvC _ _ _ _ _ _
    try change EvC _ _ _ _ _ _
    repeat refine EvC.seq ?_
    try generalize hK : SeqQ _ _ _ _ = K
    refine EvC.reg ?_
    first | refine EvO.addN rfl (ev rfl) (ev rfl) (by omega) (put_T rfl _) ?_ | refine EvO.addS64 rfl (ev rfl) (ev rfl) (by omega) (by omega) (put_T rfl _) ?_ | refine EvO.addS32 rfl (ev rfl) (ev rfl) (by omega) (by omega) (put_T rfl _) ?_ | refine EvO.go rfl rfl rfl (put_T rfl _) ?_
    refine EvO.mv (.inl rfl) rfl (ev rfl) (by dsimp only [Fr.put,List.set_cons_succ,List.set_cons_zero] <;> rfl) ?_
    refine EvO.nil ?_
    try subst hK
    try change EvC _ _ _ _ _ _
    exact ⟨mm - 1,by omega,⟨i + 1,rfl,hH,by omega⟩⟩
  ·try change EvC _ _ _ _ _ _
   refine EvC.exit ?_
   try change EvC _ _ _ _ _ _
   try change EvC _ _ _ _ _ _
   repeat refine EvC.seq ?_
   try generalize hK : SeqQ _ _ _ _ = K
   refine EvC.reg ?_
   refine EvO.mv (.inr rfl) rfl (ev rfl) (by dsimp only [Fr.put,List.set_cons_succ,List.set_cons_zero] <;> rfl) ?_
   refine EvO.nil ?_
   try subst hK
   try change EvC _ _ _ _ _ _
   refine EvC.ret ⟨fun i h => (by cases h),_,_,rfl,leave_ro (by simp) hSb hH (rfl),?_⟩
   exact ⟨_,rfl⟩
def ixF_Tj (fr : Go.V.Fr) (k : Nat) : Go.V.D := Go.V.nth .junk fr.loc k
theorem lenF_ev {s0 : St} {k : Nat} {x : D} {l : List Fl} (hbx : s0.bs[k]? = some (.mem 0 false [x])) (ht : tabD s0 x = some l) : Ev pv 45 [.ptr k 0 0] s0 (.int .i64 (l.length : Nat)) s0 := by
 obtain ⟨hr,hll⟩ := tab_rows ht
 have hcx : x.cells? = some [x] := by rcases tabD_some ht with ⟨rfl,_⟩ | ⟨kl,vl,ol,c,rfl,_⟩ <;> rfl
 have hlm : (l.map flC).length = l.length := List.length_map _
 refine Ev.mk1 rfl fi45 rfl rfl rfl ?_
 dsimp only [List.cons_append,List.nil_append,List.length,Nat.reduceSub,Nat.reduceAdd,List.replicate_succ,List.replicate_zero]
 have hSb : (enterSt .ro s0).bs = s0.bs := rfl
 have hF : (enterSt .ro s0).flr <= s0.bs.length := Nat.le_refl _
 have hH : Has s0.bs.length (enterSt .ro s0) (enterSt .ro s0) [] := Has.start (Nat.le_refl _) (Nat.le_refl _)
 generalize enterSt .ro s0 = S at *
 have hm0 : s0.mem? k 0 = some (false, [x]) := by
  unfold St.mem?
  rw [hbx]; simp
 have hxa := Arg.of hr hSb
 try change EvC _ _ _ _ _ _
 repeat refine EvC.seq ?_
 try generalize hK : SeqQ _ _ _ _ = K
 refine EvC.reg ?_
 refine EvO.mv (.inr rfl) rfl (ev rfl) (by dsimp only [Fr.put,List.set_cons_succ,List.set_cons_zero] <;> rfl) ?_
 refine EvO.nil ?_
 try subst hK
 try change EvC _ _ _ _ _ _
 have hp1 : PtTo _ (.ptr k 0 0) [x] := pt_of hSb hm0 rfl hH
 try change EvC _ _ _ _ _ _
 repeat refine EvC.seq ?_
 try generalize hK : SeqQ _ _ _ _ = K
 refine EvC.reg ?_
 refine EvO.mv (.inl rfl) rfl (ev rfl) (put_T rfl _) ?_
 refine EvO.go (d := .ptr k 0 0) (st1 := _) rfl rfl rfl (put_T rfl _) ?_
 refine EvO.pfield (fo := 0) (m := 0) (o := 0) rfl (ev rfl) rfl rfl (Nat.add_zero _) (put_T rfl _) ?_
 first | refine EvO.hload hH rfl (ev rfl) (by first | exact at0 | exact at1 | exact at2 | exact at3 | exact at4 | exact at5 | exact at6 | exact at7) rfl (put_T rfl _) ?_ | refine EvO.rload rfl (ev rfl) (by assumption) rfl (put_T rfl _) ?_ | refine EvO.oload hH rfl (ev rfl) (by assumption) (by first | exact at0 | exact at1 | exact at2 | exact at3 | exact at4 | exact at5 | exact at6 | exact at7) (by assumption) rfl (put_T rfl _) ?_
 first | refine EvO.rlen rfl (ev rfl) (Arg.rows (by assumption) hH) rfl (put_T rfl _) ?_ | refine EvO.rlen rfl (ev rfl) (hH.rows (by first | exact at0 | exact at1 | exact at2 | exact at3 | exact at4 | exact at5 | exact at6 | exact at7)) rfl (put_T rfl _) ?_ | refine EvO.slen rfl rfl rfl (put_T rfl _) ?_ | refine EvO.go rfl rfl rfl (put_T rfl _) ?_
 try simp only [List.length_map,List.length_append,List.length_cons,List.length_nil,List.length_set,List.length_replicate,List.length_reverse]
 refine EvO.mv (.inr rfl) rfl (ev rfl) (by dsimp only [Fr.put,List.set_cons_succ,List.set_cons_zero] <;> rfl) ?_
 refine EvO.nil ?_
 try subst hK
 try change EvC _ _ _ _ _ _
 rw [<- hlm]
 refine EvC.ret ⟨fun i h => (by cases h),_,rfl,leave_ro (by simp) hSb hH (rfl)⟩
theorem quoF_op (n : Nat) (hn : n < 9223372036854775808) (st : St) : (binD pv .quo 3 (.int .i64 (n : Nat)) (.int .i64 2)).map (fun d => (d,st)) = some (.int .i64 ((n / 2 : Nat) : Int),st) := by
 show Option.map _ (if (2 : Int) = 0 then none else some (D.int .i64 (wrapD .i64 (((n : Nat) : Int).tdiv 2)))) = _
 rw [if_neg (by decide),show ((n : Nat) : Int).tdiv 2 = ((n / 2 : Nat) : Int) from (Int.ofNat_tdiv n 2).symm,wrap_nat (by simp only [maxN]; omega)]; rfl
theorem findF_ev {s0 : St} {k ver off : Nat} {key : Int} {ar : Bool} {ct : List D} {x : D} {l : List Fl} (hm : s0.mem? k ver = some (ar,ct)) (hx : ct[off]? = some x) (ht : tabD s0 x = some l) : Ev pv 72 [.ptr k ver off, .int .i64 key] s0 (.tup [.int .i64 (findT l key : Nat), .bool (thereT l key)]) s0 := by
 obtain ⟨hr,hll⟩ := tab_rows ht
 have hkl : k < s0.bs.length := (List.getElem?_eq_some_iff.1 (mem_spec hm).1).1
 have hofl : off < ct.length := (List.getElem?_eq_some_iff.1 hx).1
 have hcx : x.cells? = some [x] := by rcases tabD_some ht with ⟨rfl,_⟩ | ⟨kl,vl,ol,c,rfl,_⟩ <;> rfl
 refine Ev.mk1 rfl fi72 rfl rfl rfl ?_
 dsimp only [List.cons_append,List.nil_append,List.length,Nat.reduceSub,Nat.reduceAdd,List.replicate_succ,List.replicate_zero]
 have hSb : (enterSt .ro s0).bs = s0.bs := rfl
 have hF : (enterSt .ro s0).flr <= s0.bs.length := Nat.le_refl _
 have hH : Has s0.bs.length (enterSt .ro s0) (enterSt .ro s0) [] := Has.start (Nat.le_refl _) (Nat.le_refl _)
 generalize enterSt .ro s0 = S at *
 have hxa := Arg.of hr hSb
 have hpt : ∀ {st : St} {H : List Ent},Has s0.bs.length S st H -> PtTo st (.ptr k ver off) [x] := fun {st H} h => by
  refine .inl ⟨k,ver,off,ar,ct,rfl,?_,?_⟩
  ·have h1 := (mem_spec hm).1
   unfold St.mem?
   rw [h.ex.low k hkl,hSb,h1]; simp
  ·rw [List.drop_eq_getElem_cons hofl]
   rw [List.getElem?_eq_getElem hofl] at hx
   rw [Option.some.inj hx]; rfl
 try change EvC _ _ _ _ _ _
 repeat refine EvC.seq ?_
 try generalize hK : SeqQ _ _ _ _ = K
 refine EvC.reg ?_
 refine EvO.mv (.inr rfl) rfl (ev rfl) (by dsimp only [Fr.put,List.set_cons_succ,List.set_cons_zero] <;> rfl) ?_
 refine EvO.mv (.inr rfl) rfl (ev rfl) (by dsimp only [Fr.put,List.set_cons_succ,List.set_cons_zero] <;> rfl) ?_
 refine EvO.nil ?_
 try subst hK
 try change EvC _ _ _ _ _ _
 have hp1 := hpt hH
 try change EvC _ _ _ _ _ _
 repeat refine EvC.seq ?_
 try generalize hK : SeqQ _ _ _ _ = K
 refine EvC.reg ?_
 refine EvO.mv (.inl rfl) rfl (ev rfl) (put_T rfl _) ?_
 refine EvO.go (d := .ptr k ver off) (st1 := _) rfl rfl rfl (put_T rfl _) ?_
 refine EvO.pfield (fo := 0) (m := 0) (o := off) rfl (ev rfl) rfl rfl (Nat.add_zero _) (put_T rfl _) ?_
 first | refine EvO.hload hH rfl (ev rfl) (by first | exact at0 | exact at1 | exact at2 | exact at3 | exact at4 | exact at5 | exact at6 | exact at7) rfl (put_T rfl _) ?_ | refine EvO.rload rfl (ev rfl) (by assumption) rfl (put_T rfl _) ?_ | refine EvO.oload hH rfl (ev rfl) (by assumption) (by first | exact at0 | exact at1 | exact at2 | exact at3 | exact at4 | exact at5 | exact at6 | exact at7) (by assumption) rfl (put_T rfl _) ?_
 first | refine EvO.rlen rfl (ev rfl) (Arg.rows (by assumption) hH) rfl (put_T rfl _) ?_ | refine EvO.rlen rfl (ev rfl) (hH.rows (by first | exact at0 | exact at1 | exact at2 | exact at3 | exact at4 | exact at5 | exact at6 | exact at7)) rfl (put_T rfl _) ?_ | refine EvO.slen rfl rfl rfl (put_T rfl _) ?_ | refine EvO.go rfl rfl rfl (put_T rfl _) ?_
 try simp only [List.length_map,List.length_append,List.length_cons,List.length_nil,List.length_set,List.length_replicate,List.length_reverse]
 refine EvO.mv (.inr rfl) rfl (ev rfl) (by dsimp only [Fr.put,List.set_cons_succ,List.set_cons_zero] <;> rfl) ?_
 refine EvO.mv (.inr rfl) rfl (ev rfl) (by dsimp only [Fr.put,List.set_cons_succ,List.set_cons_zero] <;> rfl) ?_
 refine EvO.nil ?_
 try subst hK
 try change EvC _ _ _ _ _ _
 try change EvC _ _ _ _ _ _
 repeat refine EvC.seq ?_
 refine EvC.block ?_
 refine EvC.loop (fun mm fr st => ∃ (lo hi : Nat),fr.clean = ⟨9, [.ptr k ver off, .int .i64 key,ixF_Tj fr 2,ixF_Tj fr 3,ixF_Tj fr 4,ixF_Tj fr 5, .int .i64 (lo : Nat), .int .i64 (hi : Nat),ixF_Tj fr 8], []⟩ /\ Has s0.bs.length S st [] /\ (hi - lo <= mm) /\ (lo <= hi) /\ (hi <= l.length) /\ (∃ f,hi - lo <= f /\ findLo (l.map (·.k)) key f lo hi = findT l key)) (l.length) ?_ ?_
 ·exact ⟨0,l.length,rfl,hH,by omega,by omega,by omega,⟨l.length,by omega,rfl⟩⟩
 rintro mm fr st ⟨lo,hi,hfr,hH,hmm,hlh,hhl,hfd⟩
 rw [hfr]
 clear hfr
 try generalize ixF_Tj fr = ee
 clear fr
 try change EvC _ _ _ _ _ _
 try change EvC _ _ _ _ _ _
 repeat refine EvC.seq ?_
 try generalize hK : SeqQ _ _ _ _ = K
 refine EvC.reg ?_
 refine EvO.mv (.inl rfl) rfl (ev rfl) (put_T rfl _) ?_
 refine EvO.mv (.inl rfl) rfl (ev rfl) (put_T rfl _) ?_
 refine EvO.go rfl rfl rfl (put_T rfl _) ?_
 refine EvO.nil ?_
 try subst hK
 try change EvC _ _ _ _ _ _
 try change EvC _ _ _ _ _ _
 repeat refine EvC.seq ?_
 refine EvC.cond (by first | rfl | assumption) (fun hlt => ?_) (fun hlt => ?_) <;> try simp only [decide_eq_true_eq,decide_eq_false_iff_not,beq_iff_eq,beq_eq_false_iff_ne,bne_iff_ne,bne_eq_false_iff_eq,ne_eq,Bool.not_eq_true',Bool.not_eq_false',Bool.not_eq_true,Bool.not_eq_false] at hlt
 ·have hlt : lo < hi := by omega
  obtain ⟨f,hf1,hf2⟩ := hfd
  obtain ⟨f',hg1,hg2⟩ := findLo_step (ks := l.map (·.k)) (key := key) hlt hf1
  obtain ⟨r,hr0⟩ : ∃ r,l[(lo + hi) / 2]? = some r := ⟨l[(lo + hi) / 2]'(by omega),List.getElem?_eq_getElem _⟩
  have hr1 := fl_get hr0
  rw [key_at hr0] at hg1 hg2
  refine EvC.skip ?_
  try change EvC _ _ _ _ _ _
  try change EvC _ _ _ _ _ _
  repeat refine EvC.seq ?_
  refine EvC.block ?_
  try change EvC _ _ _ _ _ _
  repeat refine EvC.seq ?_
  try generalize hK : SeqQ _ _ _ _ = K
  refine EvC.reg ?_
  refine EvO.mv (.inl rfl) rfl (ev rfl) (put_T rfl _) ?_
  refine EvO.mv (.inl rfl) rfl (ev rfl) (put_T rfl _) ?_
  refine EvO.addZ (z := ((lo + hi : Nat) : Int)) rfl (ev rfl) (ev rfl) (by (try simp only [List.length_reverse,List.length_cons,List.length_nil,List.length_append,List.length_map,List.length_set]); first | (rw [wrap_i64 (by omega) (by omega)] <;> omega) | (rw [wrap_i32 (by omega) (by omega)] <;> omega)) (put_T rfl _) ?_
  refine EvO.go (d := .int .i64 (((lo + hi) / 2 : Nat) : Int)) (st1 := _) rfl rfl (by exact quoF_op _ (by omega) _) (put_T rfl _) ?_
  refine EvO.mv (.inr rfl) rfl (ev rfl) (by dsimp only [Fr.put,List.set_cons_succ,List.set_cons_zero] <;> rfl) ?_
  refine EvO.nil ?_
  try subst hK
  try change EvC _ _ _ _ _ _
  have hp1 := hpt hH
  try change EvC _ _ _ _ _ _
  repeat refine EvC.seq ?_
  try generalize hK : SeqQ _ _ _ _ = K
  refine EvC.reg ?_
  refine EvO.mv (.inl rfl) rfl (ev rfl) (put_T rfl _) ?_
  refine EvO.go (d := .ptr k ver off) (st1 := _) rfl rfl rfl (put_T rfl _) ?_
  refine EvO.pfield (fo := 0) (m := 0) (o := off) rfl (ev rfl) rfl rfl (Nat.add_zero _) (put_T rfl _) ?_
  first | refine EvO.hload hH rfl (ev rfl) (by first | exact at0 | exact at1 | exact at2 | exact at3 | exact at4 | exact at5 | exact at6 | exact at7) rfl (put_T rfl _) ?_ | refine EvO.rload rfl (ev rfl) (by assumption) rfl (put_T rfl _) ?_ | refine EvO.oload hH rfl (ev rfl) (by assumption) (by first | exact at0 | exact at1 | exact at2 | exact at3 | exact at4 | exact at5 | exact at6 | exact at7) (by assumption) rfl (put_T rfl _) ?_
  refine EvO.mv (.inl rfl) rfl (ev rfl) (put_T rfl _) ?_
  first | refine EvO.ridx rfl (ev rfl) (ev rfl) (Arg.rows (by assumption) hH) rfl rfl (by assumption) (fun _ => (put_T rfl _)) (fun p26 hp26 => ?_) | refine EvO.oidx hH rfl (ev rfl) (ev rfl) (by first | exact at0 | exact at1 | exact at2 | exact at3 | exact at4 | exact at5 | exact at6 | exact at7) rfl rfl (by first | exact lt_get (by assumption) | omega | (simp only [List.length_map,List.length_append,List.length_cons,List.length_nil,List.length_set,List.length_replicate] <;> omega)) (fun _ => (put_T rfl _)) (fun p26 hp26 => ?_)
  first | refine EvO.rfieldN (fo := 0) (m := 0) rfl (ev rfl) (by assumption) rfl rfl (fun _ => (put_T rfl _)) (fun p27 hp27 => ?_) | refine EvO.ofieldN (fo := 0) (m := 0) (o2 := 0) rfl (ev rfl) (by assumption) rfl rfl rfl (fun _ => (put_T rfl _)) (fun p27 hp27 => ?_)
  first | refine EvO.rload rfl (ev rfl) (by assumption) rfl (put_T rfl _) ?_ | refine EvO.oload hH rfl (ev rfl) (by assumption) (by first | exact at0 | exact at1 | exact at2 | exact at3 | exact at4 | exact at5 | exact at6 | exact at7) (by assumption) rfl (put_T rfl _) ?_ | refine EvO.hload hH rfl (ev rfl) (by first | exact at0 | exact at1 | exact at2 | exact at3 | exact at4 | exact at5 | exact at6 | exact at7) rfl (put_T rfl _) ?_
  refine EvO.mv (.inl rfl) rfl (ev rfl) (put_T rfl _) ?_
  refine EvO.go (d := .bool (decide (r.k < key))) (st1 := _) rfl rfl rfl (put_T rfl _) ?_
  refine EvO.nil ?_
  try subst hK
  try change EvC _ _ _ _ _ _
  cases hb : decide (r.k < key) with
  | true =>
   rw [hb,if_pos rfl] at hg1
   rw [hb,if_pos rfl] at hg2
   try change EvC _ _ _ _ _ _
   repeat refine EvC.seq ?_
   refine EvC.cond (v := true) (by first | assumption | (dsimp only [Fr.ev,Fr.get,nth,Go.V.look]; done)) (fun _ => ?_) (fun h => by cases h)
   try change EvC _ _ _ _ _ _
   try change EvC _ _ _ _ _ _
   repeat refine EvC.seq ?_
   try generalize hK : SeqQ _ _ _ _ = K
   refine EvC.reg ?_
   refine EvO.mv (.inl rfl) rfl (ev rfl) (put_T rfl _) ?_
   refine EvO.addZ (z := (((lo + hi) / 2 + 1 : Nat) : Int)) rfl (ev rfl) (ev rfl) (by (try simp only [List.length_reverse,List.length_cons,List.length_nil,List.length_append,List.length_map,List.length_set]); first | (rw [wrap_i64 (by omega) (by omega)] <;> omega) | (rw [wrap_i32 (by omega) (by omega)] <;> omega)) (put_T rfl _) ?_
   refine EvO.mv (.inr rfl) rfl (ev rfl) (by dsimp only [Fr.put,List.set_cons_succ,List.set_cons_zero] <;> rfl) ?_
   refine EvO.nil ?_
   try subst hK
   try change EvC _ _ _ _ _ _
   exact ⟨mm - 1,by omega,⟨(lo + hi) / 2 + 1,hi,rfl,hH,by omega,by omega,by omega,⟨f',hg1,by rw [<- hg2]; exact hf2⟩⟩⟩
  | false =>
   rw [hb,if_neg (by simp)] at hg1
   rw [hb,if_neg (by simp)] at hg2
   try change EvC _ _ _ _ _ _
   repeat refine EvC.seq ?_
   refine EvC.cond (v := false) (by first | assumption | (dsimp only [Fr.ev,Fr.get,nth,Go.V.look]; done)) (fun h => by cases h) (fun _ => ?_)
   try change EvC _ _ _ _ _ _
   try change EvC _ _ _ _ _ _
   repeat refine EvC.seq ?_
   try generalize hK : SeqQ _ _ _ _ = K
   refine EvC.reg ?_
   refine EvO.mv (.inl rfl) rfl (ev rfl) (put_T rfl _) ?_
   refine EvO.mv (.inr rfl) rfl (ev rfl) (by dsimp only [Fr.put,List.set_cons_succ,List.set_cons_zero] <;> rfl) ?_
   refine EvO.nil ?_
   try subst hK
   try change EvC _ _ _ _ _ _
   exact ⟨mm - 1,by omega,⟨lo,(lo + hi) / 2,rfl,hH,by omega,by omega,by omega,⟨f',hg1,by rw [<- hg2]; exact hf2⟩⟩⟩
 ·try change EvC _ _ _ _ _ _
  refine EvC.exit ?_
  try change EvC _ _ _ _ _ _
  obtain ⟨f,hf1,hf2⟩ := hfd
  rw [findLo_end _ _ _ _ _ (by omega)] at hf2
  subst hf2
  have hp1 := hpt hH
  by_cases hin : findT l key < l.length
  ·have hg8 : decide (((findT l key : Nat) : Int) < ((l.length : Nat) : Int)) = true := by rw [decide_eq_true_eq]; omega
   obtain ⟨r,hr0⟩ : ∃ r,l[findT l key]? = some r := ⟨l[findT l key]'hin,List.getElem?_eq_getElem _⟩
   have hr1 := fl_get hr0
   have hth : thereT l key = (r.k == key) := by unfold thereT; rw [decide_eq_true hin,key_at hr0]; rfl
   rw [hth]
   try change EvC _ _ _ _ _ _
   repeat refine EvC.seq ?_
   try generalize hK : SeqQ _ _ _ _ = K
   refine EvC.reg ?_
   refine EvO.mv (.inl rfl) rfl (ev rfl) (put_T rfl _) ?_
   refine EvO.mv (.inl rfl) rfl (ev rfl) (put_T rfl _) ?_
   refine EvO.mv (.inl rfl) rfl (ev rfl) (put_T rfl _) ?_
   refine EvO.go (d := .ptr k ver off) (st1 := _) rfl rfl rfl (put_T rfl _) ?_
   refine EvO.pfield (fo := 0) (m := 0) (o := off) rfl (ev rfl) rfl rfl (Nat.add_zero _) (put_T rfl _) ?_
   first | refine EvO.hload hH rfl (ev rfl) (by first | exact at0 | exact at1 | exact at2 | exact at3 | exact at4 | exact at5 | exact at6 | exact at7) rfl (put_T rfl _) ?_ | refine EvO.rload rfl (ev rfl) (by assumption) rfl (put_T rfl _) ?_ | refine EvO.oload hH rfl (ev rfl) (by assumption) (by first | exact at0 | exact at1 | exact at2 | exact at3 | exact at4 | exact at5 | exact at6 | exact at7) (by assumption) rfl (put_T rfl _) ?_
   first | refine EvO.rlen rfl (ev rfl) (Arg.rows (by assumption) hH) rfl (put_T rfl _) ?_ | refine EvO.rlen rfl (ev rfl) (hH.rows (by first | exact at0 | exact at1 | exact at2 | exact at3 | exact at4 | exact at5 | exact at6 | exact at7)) rfl (put_T rfl _) ?_ | refine EvO.slen rfl rfl rfl (put_T rfl _) ?_ | refine EvO.go rfl rfl rfl (put_T rfl _) ?_
   try simp only [List.length_map,List.length_append,List.length_cons,List.length_nil,List.length_set,List.length_replicate,List.length_reverse]
   refine EvO.go rfl rfl rfl (put_T rfl _) ?_
   refine EvO.mv (.inl rfl) rfl (ev rfl) (put_T rfl _) ?_
   refine EvO.mv (.inl rfl) (wantD_is rfl rfl rfl hg8) (ev rfl) (put_T rfl _) ?_
   refine EvO.go (d := .ptr k ver off) (st1 := _) (wantD_is rfl rfl rfl hg8) rfl rfl (put_T rfl _) ?_
   refine EvO.pfield (fo := 0) (m := 0) (o := off) (wantD_is rfl rfl rfl hg8) (ev rfl) rfl rfl (Nat.add_zero _) (put_T rfl _) ?_
   first | refine EvO.hload hH (wantD_is rfl rfl rfl hg8) (ev rfl) (by first | exact at0 | exact at1 | exact at2 | exact at3 | exact at4 | exact at5 | exact at6 | exact at7) rfl (put_T rfl _) ?_ | refine EvO.rload (wantD_is rfl rfl rfl hg8) (ev rfl) (by assumption) rfl (put_T rfl _) ?_ | refine EvO.oload hH (wantD_is rfl rfl rfl hg8) (ev rfl) (by assumption) (by first | exact at0 | exact at1 | exact at2 | exact at3 | exact at4 | exact at5 | exact at6 | exact at7) (by assumption) rfl (put_T rfl _) ?_
   refine EvO.mv (.inl rfl) (wantD_is rfl rfl rfl hg8) (ev rfl) (put_T rfl _) ?_
   first | refine EvO.ridx (wantD_is rfl rfl rfl hg8) (ev rfl) (ev rfl) (Arg.rows (by assumption) hH) rfl rfl (by assumption) (fun _ => (put_T rfl _)) (fun p48 hp48 => ?_) | refine EvO.oidx hH (wantD_is rfl rfl rfl hg8) (ev rfl) (ev rfl) (by first | exact at0 | exact at1 | exact at2 | exact at3 | exact at4 | exact at5 | exact at6 | exact at7) rfl rfl (by first | exact lt_get (by assumption) | omega | (simp only [List.length_map,List.length_append,List.length_cons,List.length_nil,List.length_set,List.length_replicate] <;> omega)) (fun _ => (put_T rfl _)) (fun p48 hp48 => ?_)
   first | refine EvO.rfieldN (fo := 0) (m := 0) (wantD_is rfl rfl rfl hg8) (ev rfl) (by assumption) rfl rfl (fun _ => (put_T rfl _)) (fun p49 hp49 => ?_) | refine EvO.ofieldN (fo := 0) (m := 0) (o2 := 0) (wantD_is rfl rfl rfl hg8) (ev rfl) (by assumption) rfl rfl rfl (fun _ => (put_T rfl _)) (fun p49 hp49 => ?_)
   first | refine EvO.rload (wantD_is rfl rfl rfl hg8) (ev rfl) (by assumption) rfl (put_T rfl _) ?_ | refine EvO.oload hH (wantD_is rfl rfl rfl hg8) (ev rfl) (by assumption) (by first | exact at0 | exact at1 | exact at2 | exact at3 | exact at4 | exact at5 | exact at6 | exact at7) (by assumption) rfl (put_T rfl _) ?_ | refine EvO.hload hH (wantD_is rfl rfl rfl hg8) (ev rfl) (by first | exact at0 | exact at1 | exact at2 | exact at3 | exact at4 | exact at5 | exact at6 | exact at7) rfl (put_T rfl _) ?_
   refine EvO.mv (.inl rfl) (wantD_is rfl rfl rfl hg8) (ev rfl) (put_T rfl _) ?_
   refine EvO.go (wantD_is rfl rfl rfl hg8) rfl rfl (put_T rfl _) ?_
   refine EvO.pickT rfl rfl hg8 (put_T rfl _) ?_
   refine EvO.mv (.inr rfl) rfl (ev rfl) (by dsimp only [Fr.put,List.set_cons_succ,List.set_cons_zero] <;> rfl) ?_
   refine EvO.mv (.inr rfl) rfl (ev rfl) (by dsimp only [Fr.put,List.set_cons_succ,List.set_cons_zero] <;> rfl) ?_
   refine EvO.nil ?_
   try subst hK
   try change EvC _ _ _ _ _ _
   refine EvC.ret ⟨fun i h => (by cases h),_,rfl,leave_ro (by simp) hSb hH (rfl)⟩
  ·have hg8 : decide (((findT l key : Nat) : Int) < ((l.length : Nat) : Int)) = false := by rw [decide_eq_false_iff_not]; omega
   have hth : thereT l key = false := by unfold thereT; rw [decide_eq_false hin]; rfl
   rw [hth]
   try change EvC _ _ _ _ _ _
   repeat refine EvC.seq ?_
   try generalize hK : SeqQ _ _ _ _ = K
   refine EvC.reg ?_
   refine EvO.mv (.inl rfl) rfl (ev rfl) (put_T rfl _) ?_
   refine EvO.mv (.inl rfl) rfl (ev rfl) (put_T rfl _) ?_
   refine EvO.mv (.inl rfl) rfl (ev rfl) (put_T rfl _) ?_
   refine EvO.go (d := .ptr k ver off) (st1 := _) rfl rfl rfl (put_T rfl _) ?_
   refine EvO.pfield (fo := 0) (m := 0) (o := off) rfl (ev rfl) rfl rfl (Nat.add_zero _) (put_T rfl _) ?_
   first | refine EvO.hload hH rfl (ev rfl) (by first | exact at0 | exact at1 | exact at2 | exact at3 | exact at4 | exact at5 | exact at6 | exact at7) rfl (put_T rfl _) ?_ | refine EvO.rload rfl (ev rfl) (by assumption) rfl (put_T rfl _) ?_ | refine EvO.oload hH rfl (ev rfl) (by assumption) (by first | exact at0 | exact at1 | exact at2 | exact at3 | exact at4 | exact at5 | exact at6 | exact at7) (by assumption) rfl (put_T rfl _) ?_
   first | refine EvO.rlen rfl (ev rfl) (Arg.rows (by assumption) hH) rfl (put_T rfl _) ?_ | refine EvO.rlen rfl (ev rfl) (hH.rows (by first | exact at0 | exact at1 | exact at2 | exact at3 | exact at4 | exact at5 | exact at6 | exact at7)) rfl (put_T rfl _) ?_ | refine EvO.slen rfl rfl rfl (put_T rfl _) ?_ | refine EvO.go rfl rfl rfl (put_T rfl _) ?_
   try simp only [List.length_map,List.length_append,List.length_cons,List.length_nil,List.length_set,List.length_replicate,List.length_reverse]
   refine EvO.go rfl rfl rfl (put_T rfl _) ?_
   refine EvO.mv (.inl rfl) rfl (ev rfl) (put_T rfl _) ?_
   refine EvO.skip (wantD_not rfl rfl rfl hg8) (put_T rfl _) ?_
   refine EvO.skip (wantD_not rfl rfl rfl hg8) (put_T rfl _) ?_
   refine EvO.skip (wantD_not rfl rfl rfl hg8) (put_T rfl _) ?_
   refine EvO.skip (wantD_not rfl rfl rfl hg8) (put_T rfl _) ?_
   refine EvO.skip (wantD_not rfl rfl rfl hg8) (put_T rfl _) ?_
   refine EvO.skip (wantD_not rfl rfl rfl hg8) (put_T rfl _) ?_
   refine EvO.skip (wantD_not rfl rfl rfl hg8) (put_T rfl _) ?_
   refine EvO.skip (wantD_not rfl rfl rfl hg8) (put_T rfl _) ?_
   refine EvO.skip (wantD_not rfl rfl rfl hg8) (put_T rfl _) ?_
   refine EvO.skip (wantD_not rfl rfl rfl hg8) (put_T rfl _) ?_
   refine EvO.pickF rfl rfl hg8 (put_T rfl _) ?_
   refine EvO.mv (.inr rfl) rfl (ev rfl) (by dsimp only [Fr.put,List.set_cons_succ,List.set_cons_zero] <;> rfl) ?_
   refine EvO.mv (.inr rfl) rfl (ev rfl) (by dsimp only [Fr.put,List.set_cons_succ,List.set_cons_zero] <;> rfl) ?_
   refine EvO.nil ?_
   try subst hK
   try change EvC _ _ _ _ _ _
   refine EvC.ret ⟨fun i h => (by cases h),_,rfl,leave_ro (by simp) hSb hH (rfl)⟩
def SrtF (l : List Fl) : Prop := ∀ (i j : Nat) u w,i < j -> l[i]? = some u -> l[j]? = some w -> u.k < w.k
theorem findLo_spec {ks : List Int} {key : Int} (hs : ∀ (i j : Nat) a b,i <= j -> ks[i]? = some a -> ks[j]? = some b -> b < key -> a < key) : ∀ (f lo hi : Nat),hi - lo <= f -> lo <= hi -> hi <= ks.length -> (∀ (i : Nat) a,i < lo -> ks[i]? = some a -> a < key) -> (∀ (i : Nat) a,hi <= i -> ks[i]? = some a -> ¬ a < key) ->
  (∀ (i : Nat) a,i < findLo ks key f lo hi -> ks[i]? = some a -> a < key) /\ (∀ (i : Nat) a,findLo ks key f lo hi <= i -> ks[i]? = some a -> ¬ a < key)
 | 0,lo,hi,h,hl,_,h1,h2 => by
  have : lo = hi := by omega
  subst this
  exact ⟨h1,h2⟩
 | f + 1,lo,hi,h,hl,hk,h1,h2 => by
  unfold findLo
  split
  ·rename_i hlt
   obtain ⟨m,hm⟩ : ∃ m,ks[(lo + hi) / 2]? = some m := ⟨ks[(lo + hi) / 2]'(by omega),List.getElem?_eq_getElem _⟩
   have hg : ks.getD ((lo + hi) / 2) 0 = m := by rw [List.getD_eq_getElem?_getD,hm]; rfl
   rw [hg]
   by_cases hb : m < key
   ·rw [if_pos (by simpa using hb)]
    exact findLo_spec hs f _ _ (by omega) (by omega) hk (fun i a hi ha => hs i _ a m (by omega) ha hm hb) h2
   ·rw [if_neg (by simpa using hb)]
    exact findLo_spec hs f _ _ (by omega) (by omega) (by omega) h1 (fun i a hi ha hc => hb (hs _ i m a (by omega) hm ha hc))
  ·have : lo = hi := by omega
   subst this
   exact ⟨h1,h2⟩
theorem findT_spec {l : List Fl} {key : Int} (hs : SrtF l) : (∀ (i : Nat) r,i < findT l key -> l[i]? = some r -> r.k < key) /\ (∀ (i : Nat) r,findT l key <= i -> l[i]? = some r -> ¬ r.k < key) := by
 have h := findLo_spec (ks := l.map (·.k)) (key := key) (fun i j a b hij ha hb hlt => by
  rcases Nat.lt_or_eq_of_le hij with h | rfl
  ·rw [List.getElem?_map] at ha hb
   obtain ⟨u,hu,rfl⟩ := Option.map_eq_some_iff.1 ha
   obtain ⟨w,hw,rfl⟩ := Option.map_eq_some_iff.1 hb
   have := hs i j u w h hu hw
   omega
  ·rw [ha] at hb; cases hb; exact hlt) l.length 0 l.length (by omega) (by omega) (by simp) (fun i a h => by omega) (fun i a h ha => by rw [List.getElem?_eq_none (by simpa using h)] at ha; cases ha)
 exact ⟨fun i r hi hr => h.1 i r.k hi (by rw [List.getElem?_map,hr]; rfl),fun i r hi hr => h.2 i r.k hi (by rw [List.getElem?_map,hr]; rfl)⟩
theorem find_mem {l : List Fl} (hs : SrtF l) {j : Nat} {r : Fl} (hj : l[j]? = some r) : findT l r.k = j /\ thereT l r.k = true := by
 obtain ⟨h1,h2⟩ := findT_spec (key := r.k) hs
 have he : findT l r.k = j := by
  rcases Nat.lt_trichotomy (findT l r.k) j with h | h | h
  ·obtain ⟨u,hu⟩ : ∃ u,l[findT l r.k]? = some u := ⟨l[findT l r.k]'(by have := (List.getElem?_eq_some_iff.1 hj).1; omega),List.getElem?_eq_getElem _⟩
   have h3 := h2 _ u (Nat.le_refl _) hu
   exact absurd (hs _ j u r h hu hj) h3
  ·exact h
  ·have h3 := h1 j r h hj
   omega
 refine ⟨he,?_⟩
 unfold thereT
 rw [he,Bool.and_eq_true,decide_eq_true_eq,key_at hj]
 exact ⟨(List.getElem?_eq_some_iff.1 hj).1,by simp⟩
theorem there_at {l : List Fl} {key : Int} (h : thereT l key = true) : ∃ r,l[findT l key]? = some r /\ r.k = key := by
 unfold thereT at h
 rw [Bool.and_eq_true,decide_eq_true_eq] at h
 have hr := List.getElem?_eq_getElem h.1
 refine ⟨_,hr,?_⟩
 have := h.2
 rw [key_at hr] at this
 simpa using this
def insT {α : Type} (l : List α) (i : Nat) (r : α) : List α := l.take i ++ r :: l.drop i
theorem insT_get {α : Type} {l : List α} {n : Nat} {r : α} (hn : n <= l.length) (i : Nat) : (insT l n r)[i]? = if i < n then l[i]? else if i = n then some r else l[i - 1]? := by
 unfold insT
 have hl : (l.take n).length = n := by rw [List.length_take]; omega
 by_cases h1 : i < n
 ·rw [if_pos h1,List.getElem?_append_left (by omega),List.getElem?_take,if_pos h1]
 ·rw [if_neg h1,List.getElem?_append_right (by omega),hl]
  by_cases h2 : i = n
  ·rw [if_pos h2,h2,Nat.sub_self]; rfl
  ·rw [if_neg h2]
   obtain ⟨m,hm⟩ : ∃ m,i - n = m + 1 := ⟨i - n - 1,by omega⟩
   rw [hm,List.getElem?_cons_succ,List.getElem?_drop]
   congr 1; omega
theorem ins_srt {l : List Fl} {key : Int} {nm : List UInt8} {b : D} (hs : SrtF l) (ht : thereT l key = false) : SrtF (insT l (findT l key) ⟨key,nm,b⟩) := by
 obtain ⟨f1,f2⟩ := findT_spec (key := key) hs
 have hn := findT_le l key
 have hne : ∀ (i : Nat) u,l[i]? = some u -> u.k ≠ key := fun i u hu he => by
  have := (find_mem hs hu).2
  rw [he,ht] at this; cases this
 intro i j u w hij hu hw
 rw [insT_get hn] at hu hw
 by_cases h1 : i < findT l key
 ·rw [if_pos h1] at hu
  by_cases h2 : j < findT l key
  ·rw [if_pos h2] at hw; exact hs i j u w hij hu hw
  ·rw [if_neg h2] at hw
   by_cases h3 : j = findT l key
   ·rw [if_pos h3] at hw; cases hw; exact f1 i u h1 hu
   ·rw [if_neg h3] at hw; exact hs i (j - 1) u w (by omega) hu hw
 ·rw [if_neg h1] at hu
  rw [if_neg (by omega),if_neg (by omega)] at hw
  by_cases h3 : i = findT l key
  ·rw [if_pos h3] at hu; cases hu
   have h4 := f2 (j - 1) w (by omega) hw
   have h5 := hne _ w hw
   show key < w.k
   omega
  ·rw [if_neg h3] at hu; exact hs (i - 1) (j - 1) u w (by omega) hu hw
theorem set_srt {l : List Fl} {i : Nat} {r r' : Fl} (hs : SrtF l) (hi : l[i]? = some r) (hk : r'.k = r.k) : SrtF (l.set i r') := by
 have key : ∀ (a : Nat) u,(l.set i r')[a]? = some u -> ∃ v,l[a]? = some v /\ v.k = u.k := fun a u hu => by
  rw [List.getElem?_set] at hu
  split at hu
  ·rename_i he
   subst he
   split at hu
   ·cases hu; exact ⟨r,hi,hk.symm⟩
   ·cases hu
  ·exact ⟨u,hu,rfl⟩
 intro a b u w hab hu hw
 obtain ⟨u',h1,h2⟩ := key a u hu
 obtain ⟨w',h3,h4⟩ := key b w hw
 have := hs a b u' w' hab h1 h3
 omega
theorem era_srt {l : List Fl} {i : Nat} (hs : SrtF l) : SrtF (l.eraseIdx i) := by
 intro a b u w hab hu hw
 rw [List.getElem?_eraseIdx] at hu hw
 split at hu <;> split at hw
 ·exact hs a b u w hab hu hw
 ·exact hs a (b + 1) u w (by omega) hu hw
 ·omega
 ·exact hs (a + 1) (b + 1) u w (by omega) hu hw
def belowN (l : List Fl) (n : Int) : Nat := (l.filter fun r => decide (r.k < n)).length
theorem below_le (l : List Fl) (n : Int) : belowN l n <= l.length := List.length_filter_le ..
theorem below_mono : ∀ (l : List Fl) (n : Int),belowN l n <= belowN l (n + 1)
 | [],n => Nat.le_refl _
 | r :: l,n => by
  have ih := below_mono l n
  unfold belowN at ih ⊢
  simp only [List.filter_cons]
  by_cases h : r.k < n
  ·rw [if_pos (by simpa using h),if_pos (by simpa using (show r.k < n + 1 by omega))]
   simp only [List.length_cons]; omega
  ·rw [if_neg (by simpa using h)]
   split
   ·simp only [List.length_cons]; omega
   ·exact ih
theorem below_step : ∀ {l : List Fl} {n : Int} {r : Fl},r ∈ l -> r.k = n -> belowN l n + 1 <= belowN l (n + 1)
 | [],n,r,h,_ => by cases h
 | x :: l,n,r,h,hk => by
  have hm := below_mono l n
  rcases List.mem_cons.1 h with rfl | h
  ·unfold belowN at hm ⊢
   simp only [List.filter_cons]
   rw [if_neg (by simpa using (show ¬ r.k < n by omega)),if_pos (by simpa using (show r.k < n + 1 by omega))]
   simp only [List.length_cons]; omega
  ·have ih := below_step h hk
   unfold belowN at ih ⊢
   simp only [List.filter_cons]
   by_cases hx : x.k < n
   ·rw [if_pos (by simpa using hx),if_pos (by simpa using (show x.k < n + 1 by omega))]
    simp only [List.length_cons]; omega
   ·rw [if_neg (by simpa using hx)]
    split
    ·simp only [List.length_cons]; omega
    ·exact ih
theorem wrTail {N : Nat} {S st : St} {H : List Ent} {j k ver off s n i : Nat} {es es' : List (List D)} (h : Has N S st H) (hj : H[j]? = some (.lst (.win k ver off n s) s es)) (hl' : i + es'.length = n) (hs : ∀ e ∈ es',e.length = s) (hw : S.flr <= N \/ refs es'.flatten = 0) :
  ∃ st',st.wr k ver (off + i * s) es'.flatten = some st' /\ Has N S st' (H.set j (.lst (.win k ver off n s) s (es.take i ++ es'))) := by
 have hk0 := (h.ok j _ hj).2
 have hown := h.own hj
 cases hown with
 | win k ver off es c hm hle hc he =>
  have hk := hk0 k (by simp only [Ent.lst,D.ref])
  have hlr : es'.flatten.length = es'.length * s := flat_len hs
  have hmul : i * s + es'.length * s = es.length * s := by rw [<- Nat.add_mul]; congr 1
  refine ⟨_,wr_own hm (by omega) (canW_has h hk.1 hw),?_⟩
  refine h.upd hj (fun n hn hne => ?_) (by simp) rfl rfl ?_ (fun n hn => .inl hn) fun n hn => ?_
  ·simp only; rw [List.getElem?_set_ne (fun e => hne (by simp only [Ent.lst,D.ref]; omega))]
  ·have hlen' : ∀ e' ∈ es.take i ++ es',e'.length = s := fun e' he' => by
    rcases List.mem_append.1 he' with h' | h'
    ·exact he e' (List.mem_of_mem_take h')
    ·exact hs e' h'
   have hll : (es.take i ++ es').length = es.length := by rw [List.length_append,List.length_take]; omega
   have := OwnP.win (st := ⟨st.bs.set k (.mem ver true (c.take (off + i * s) ++ es'.flatten ++ c.drop (off + i * s + es'.flatten.length))),st.flr,st.ro⟩) (s := s) k ver off (es.take i ++ es') (c.take (off + i * s) ++ es'.flatten ++ c.drop (off + i * s + es'.flatten.length))
    (by simp only; rw [List.getElem?_set_self hk.2]) (by rw [hll]; simp; omega) ?_ hlen'
   ·rw [hll] at this; exact this
   ·rw [hll,List.append_assoc,List.drop_append_of_le_length (by simp; omega),List.drop_take,Nat.add_sub_cancel_left]
    have hfe := flat_len he
    have e1 : (es.take i).flatten.length = i * s := by rw [flat_len (fun e h => he e (List.mem_of_mem_take h)),List.length_take,Nat.min_eq_left (by omega)]
    have e2 : (c.drop off).take (i * s) = (es.take i).flatten := by
     have h1 : es.flatten = (es.take i).flatten ++ (es.drop i).flatten := by rw [<- List.flatten_append,List.take_append_drop]
     have h2 : es.flatten.take (i * s) = (es.take i).flatten := by rw [h1,List.take_append_of_le_length (by omega), <- e1,List.take_length]
     rw [<- h2, <- hc,List.take_take,Nat.min_eq_left (by omega)]
    rw [e2,List.take_append,e1,List.take_of_length_le (by omega), <- hmul,Nat.add_sub_cancel_left, <- hlr,List.take_left' rfl,List.flatten_append]
  ·simp only [Ent.lst,D.ref] at hn
   have : n = k := by omega
   subst this
   simp only [List.length_set]
   exact hk.2
theorem wrAll {N : Nat} {S st : St} {H : List Ent} {j k ver off s n : Nat} {es es' : List (List D)} (h : Has N S st H) (hj : H[j]? = some (.lst (.win k ver off n s) s es)) (hl' : es'.length = n) (hs : ∀ e ∈ es',e.length = s) (hw : S.flr <= N \/ refs es'.flatten = 0) :
  ∃ st',st.wr k ver off es'.flatten = some st' /\ Has N S st' (H.set j (.lst (.win k ver off n s) s es')) := by
 obtain ⟨st',h1,h2⟩ := wrTail (i := 0) h hj (by omega) hs hw
 rw [Nat.zero_mul,Nat.add_zero] at h1
 exact ⟨st',h1,h2⟩
theorem cutWin {N : Nat} {S st : St} {H : List Ent} {j k ver off s n i : Nat} {es : List (List D)} (hH : Has N S st H) (hj : H[j]? = some (.lst (.win k ver off n s) s es)) (hi : i <= n) : Has N S st (H.set j (.lst (.win k ver off i s) s (es.take i))) := by
 have hown := hH.own hj
 cases hown with
 | win k ver off es c hm hl hc he =>
  have hlen : (es.take i).length = i := by rw [List.length_take]; omega
  have h1 : i * s <= es.length * s := Nat.mul_le_mul_right s hi
  have hk := (hH.ok j _ hj).2 k (by simp only [Ent.lst,D.ref])
  refine hH.upd hj (fun _ _ _ => rfl) (Nat.le_refl _) rfl rfl ?_ (fun k' hk' => .inl ?_) fun k' hk' => ?_
  ·have := OwnP.win (st := st) (s := s) k ver off (es.take i) c hm (by rw [hlen]; omega) ?_ (fun e he' => he e (List.mem_of_mem_take he'))
   ·rw [hlen] at this; exact this
   ·rw [hlen]
    have e1 : (es.take i).flatten.length = i * s := by rw [flat_len (fun e h => he e (List.mem_of_mem_take h)),hlen]
    have h3 : es.flatten = (es.take i).flatten ++ (es.drop i).flatten := by rw [<- List.flatten_append,List.take_append_drop]
    have h2 : es.flatten.take (i * s) = (es.take i).flatten := by rw [h3,List.take_append_of_le_length (by omega), <- e1,List.take_length]
    rw [<- h2, <- hc,List.take_take,Nat.min_eq_left (by omega)]
  ·simp only [Ent.lst,D.ref] at hk' ⊢; exact hk'
  ·simp only [Ent.lst,D.ref] at hk'; omega
theorem own_win {N : Nat} {S st : St} {H : List Ent} {j s : Nat} {x : D} {es : List (List D)} (h : Has N S st H) (hj : H[j]? = some (.lst x s es)) (hne : es ≠ []) : ∃ k ver off,x = .win k ver off es.length s := by
 cases h.own hj with
 | nul => exact absurd rfl hne
 | win k ver off es c hm hle hc he => exact ⟨k,ver,off,rfl⟩
theorem ins_flat (l : List Fl) (i : Nat) (hi : i <= l.length) (r : Fl) : insL ((l.map flC).flatten) (i * 3) (flC r) = ((insT l i r).map flC).flatten := by
 have h1 : (l.map flC).flatten = ((l.take i).map flC).flatten ++ ((l.drop i).map flC).flatten := by rw [<- List.flatten_append, <- List.map_append,List.take_append_drop]
 have h2 : ((l.take i).map flC).flatten.length = i * 3 := by rw [flat_len (fl_len _),List.length_map,List.length_take,Nat.min_eq_left hi]
 unfold insL insT
 rw [h1,List.take_left' h2,List.drop_left' h2,List.map_append,List.flatten_append,List.map_cons,List.flatten_cons]
theorem tab_of {N : Nat} {S st : St} {H : List Ent} {j : Nat} {x : D} {l : List Fl} (h : Has N S st H) (hj : H[j]? = some (.lst x 3 (l.map flC))) (hl : l.length < 1000000) : tabD st x = some l := by
 have hown := h.own hj
 have hr := rowsF_of l
 have hll : (l.map flC).length = l.length := List.length_map _
 generalize hes : l.map flC = es at *
 cases hown with
 | nul =>
  cases l with
  | nil => rfl
  | cons a b => cases hes
 | win k ver off es c hm hle hc he =>
  unfold tabD
  simp only [St.mem_of hm]
  rw [if_pos ⟨hle,by omega⟩,hc]
  exact hr
def setTab (l : List Fl) (key : Int) (nm : List UInt8) (b : D) : List Fl :=
 if thereT l key = true then l.set (findT l key) ⟨key,nm,b⟩ else insT l (findT l key) ⟨key,nm,b⟩
theorem fset_has {N k : Nat} {S st : St} {H : List Ent} {x b : D} {l : List Fl} {key : Int} {nm : List UInt8} (h : Has N S st (.box k (.mem 0 false [x]) :: .lst x 3 (l.map flC) :: H)) (hF : S.flr <= N) (hl : l.length < 999999) :
  ∃ st' x',fsetP [.ptr k 0 0, .int .i64 key, .agg [.str nm,b]] st = some (.bool (!thereT l key),st') /\ Has N S st' (.box k (.mem 0 false [x']) :: .lst x' 3 ((setTab l key nm b).map flC) :: H) := by
 have hm := St.mem_of (h.at at0)
 have htab := tab_of h at1 (by omega)
 have hkw : kwD k x ≠ k := by
  cases x with
  | win kl vl ol ln s =>
   intro he
   exact h.dis 0 1 _ _ (by decide) rfl rfl k rfl (by simp only [Ent.lst,D.ref]; exact congrArg (· + 1) he)
  | _ => show k + 1 ≠ k; omega
 have hile := findT_le l key
 have hP : fsetP [.ptr k 0 0, .int .i64 key, .agg [.str nm,b]] st = fsetF k 0 0 key nm b st x l := by
  show (match st.mem? k 0 with | some (_,ct) => _ | none => none) = _
  rw [hm]
  show (match tabD st x with | some l => fsetF k 0 0 key nm b st x l | none => none) = _
  rw [htab]
 rw [hP]
 unfold fsetF
 rw [if_neg hkw]
 cases ht : thereT l key with
 | true =>
  obtain ⟨r,hr,hrk⟩ := there_at ht
  have hil := (List.getElem?_eq_some_iff.1 hr).1
  obtain ⟨kl,vl,ol,hxw⟩ := own_win h at1 (by intro h; rw [List.map_eq_nil_iff] at h; subst h; simp at hil)
  subst hxw
  obtain ⟨st',h1,h2⟩ := h.setElem (i := findT l key) (o := 1) (e := flC r) (cs := [.str nm,b]) at1 (fl_get hr) (Nat.le_refl 3) (.inl hF)
  refine ⟨st', .win kl vl ol (l.map flC).length 3,?_,?_⟩
  ·rw [if_pos rfl]
   show (st.wr kl vl (ol + findT l key * 3 + 1) [.str nm,b]).map _ = _
   rw [h1]; rfl
  ·have hse : setTab l key nm b = l.set (findT l key) ⟨r.k,nm,b⟩ := by unfold setTab; rw [if_pos ht,hrk]
   rw [hse,List.map_set]
   exact h2
 | false =>
  rw [if_neg (by simp)]
  have hse : setTab l key nm b = insT l (findT l key) ⟨key,nm,b⟩ := by unfold setTab; rw [if_neg (by rw [ht]; simp)]
  rw [hse]
  have hp := h.pushLst (s := 3) (es := [[D.int .i64 key,D.str nm,b]]) (cs := [D.int .i64 key,D.str nm,b]) (m := 1) rfl rfl (by intro e he; rw [List.mem_singleton.1 he]; rfl)
  obtain ⟨x',st1,h1,h2,_⟩ := hp.append (P := pv0) (j := 2) (t1 := 165) (t2 := 165) (y := .win st.bs.length 0 0 1 3) rfl (hp.rows at0) rfl rfl rfl rfl rfl rfl rfl ⟨by decide,by decide⟩ (by simp only [List.length_map,List.length_cons,List.length_nil]; omega) (.inl hF)
  have h1' : appendD pv0 [165,165] x (.win st.bs.length 0 0 1 3) (st.push (.mem 0 true [.int .i64 key, .str nm,b])) = some (x',st1) := h1
  rw [h1']
  have h3 : Has N S st1 (.box k (.mem 0 false [x]) :: .lst x' 3 (l.map flC ++ [[D.int .i64 key,D.str nm,b]]) :: H) := h2.drop 1
  have hput : ∃ st2,putT x' (findT l key) l.length ((l.map flC).flatten) [.int .i64 key, .str nm,b] st1 = some st2 /\ Has N S st2 (.box k (.mem 0 false [x]) :: .lst x' 3 ((insT l (findT l key) ⟨key,nm,b⟩).map flC) :: H) := by
   unfold putT
   by_cases hlt : findT l key < l.length
   ·rw [if_pos hlt]
    obtain ⟨kl,vl,ol,hxw⟩ := own_win h3 at1 (by simp)
    have hln : (l.map flC ++ [[D.int .i64 key,D.str nm,b]]).length = l.length + 1 := by simp
    rw [hln] at hxw
    subst hxw
    obtain ⟨st2,h4,h5⟩ := wrAll (es' := (insT l (findT l key) ⟨key,nm,b⟩).map flC) h3 at1 (by unfold insT; simp; omega) (fl_len _) (.inl hF)
    rw [<- ins_flat l _ hile] at h4
    exact ⟨st2,h4,h5⟩
   ·rw [if_neg hlt]
    have he : findT l key = l.length := by omega
    refine ⟨st1,rfl,?_⟩
    have hi : insT l (findT l key) ⟨key,nm,b⟩ = l ++ [⟨key,nm,b⟩] := by rw [he]; unfold insT; rw [List.take_length,List.drop_length]
    rw [hi,List.map_append]
    exact h3
  obtain ⟨st2,h4,h5⟩ := hput
  dsimp only
  rw [h4]
  dsimp only
  have hb := h5.at at0
  have hk := (h5.ok 0 _ rfl).2 k rfl
  have hw : st2.wr k 0 0 [x'] = some { st2 with bs := st2.bs.set k (.mem 0 false ([x].take 0 ++ [x'] ++ [x].drop (0 + [x'].length))) } := wr_own hb (Nat.le_refl 1) (canW_has h5 hk.1 (.inl hF))
  rw [hw]
  exact ⟨_,x',rfl,h5.setBox (ver := 0) at0⟩
theorem fset_ev {N k : Nat} {S st : St} {H : List Ent} {x b : D} {l : List Fl} {key : Int} {nm : List UInt8} (hF : S.flr <= N) (h : Has N S st (.box k (.mem 0 false [x]) :: .lst x 3 (l.map flC) :: H)) (hl : l.length < 999999) :
  ∃ d st',Ev pv 47 [.ptr k 0 0, .int .i64 key, .agg [.str nm,b]] st d st' /\ ∃ x',d = .bool (!thereT l key) /\ Has N S st' (.box k (.mem 0 false [x']) :: .lst x' 3 ((setTab l key nm b).map flC) :: H) := by
 obtain ⟨st',x',h1,h2⟩ := fset_has (b := b) (key := key) (nm := nm) h hF hl
 exact ⟨_,st',Ev.prim (p := fsetP) rfl h1,x',rfl,h2⟩
theorem del_ev {N : Nat} {S st : St} {H : List Ent} {j i kl vl ol n : Nat} {l : List Fl} (hF : S.flr <= N) (h : Has N S st H) (hj : H[j]? = some (.lst (.win kl vl ol n 3) 3 (l.map flC))) (hi : i < n) (hn : l.length = n) (hl : n < 1000000) :
  ∃ d st',Ev pv 74 [.win kl vl ol n 3, .int .i64 (i : Nat), .int .i64 ((i : Int) + 1)] st d st' /\ d = .win kl vl ol (n - 1) 3 /\ Has N S st' (H.set j (.lst (.win kl vl ol (n - 1) 3) 3 ((l.eraseIdx i).map flC))) := by
 have hown := h.own hj
 have hll : (l.map flC).length = n := by rw [List.length_map]; exact hn
 obtain ⟨st',h1,h2⟩ := wrTail (i := i) (es' := (l.map flC).drop (i + 1) ++ [zrowD]) h hj (by rw [List.length_append,List.length_drop,List.length_singleton]; omega) (fun e he => by
  rcases List.mem_append.1 he with h | h
  ·exact fl_len l e (List.mem_of_mem_drop h)
  ·rw [List.mem_singleton.1 h]; rfl) (.inl hF)
 have h3 := cutWin (i := n - 1) h2 (by rw [List.getElem?_set_self (List.getElem?_eq_some_iff.1 hj).1]) (by omega)
 rw [List.set_set] at h3
 have he : ((l.map flC).take i ++ ((l.map flC).drop (i + 1) ++ [zrowD])).take (n - 1) = (l.eraseIdx i).map flC := by
  rw [<- List.append_assoc,List.take_append_of_le_length (by simp; omega),List.take_of_length_le (by simp; omega),List.eraseIdx_eq_take_drop_succ,List.map_append,List.map_take,List.map_drop]
 rw [he] at h3
 refine ⟨_,st',Ev.prim (p := delP) rfl ?_,rfl,h3⟩
 generalize hes : l.map flC = es at *
 cases hown with
 | win k ver off es c hm hle hc hel =>
  show (if (i : Int) + 1 = (i : Int) + 1 then (match st.mem? kl vl with | some (_,c) => delF kl vl ol es.length i c st | none => none) else none) = _
  rw [if_pos rfl,St.mem_of hm]
  show delF kl vl ol es.length i c st = _
  unfold delF
  rw [if_pos ⟨by omega,by omega,hle,hl⟩,hc]
  have hdr : es.flatten.drop ((i + 1) * 3) = (es.drop (i + 1)).flatten := by
   have h1 : es.flatten = (es.take (i + 1)).flatten ++ (es.drop (i + 1)).flatten := by rw [<- List.flatten_append,List.take_append_drop]
   have h2 : (es.take (i + 1)).flatten.length = (i + 1) * 3 := by rw [flat_len (fun e h => hel e (List.mem_of_mem_take h)),List.length_take,Nat.min_eq_left (by omega)]
   rw [h1,List.drop_left' h2]
  rw [Int.toNat_natCast,hdr]
  rw [List.flatten_append] at h1
  have h1' : st.wr kl vl (ol + i * 3) ((es.drop (i + 1)).flatten ++ zrowD) = some st' := by simpa using h1
  rw [h1']; rfl
def OldB (n : Nat) (b : D) : Prop := b = .nul \/ ∃ k v o m,b = .win k v o m 1 /\ k < n
theorem OldB.freeze {n : Nat} {b : D} (h : OldB n b) (st : St) (f : Nat) : freezeD st n true (f + 1) b = some b := by
 rcases h with rfl | ⟨k,v,o,m,rfl,hk⟩
 ·rfl
 ·show (if k < n then some (D.win k v o m 1) else _) = _
  rw [if_pos hk]
theorem OldB.cells {n : Nat} {b : D} (h : OldB n b) : b.cells? = some [b] := by
 rcases h with rfl | ⟨k,v,o,m,rfl,hk⟩ <;> rfl
theorem OldB.len {n : Nat} {st : St} {b : D} {es : List (List D)} (h : OwnP st 1 b es) (hk : ∀ k,b.ref = k + 1 -> k < n) : OldB n b := by
 cases h with
 | nul => exact .inl rfl
 | win k ver off es c hm hle hc he => exact .inr ⟨k,ver,off,es.length,rfl,hk k (by simp only [D.ref])⟩
theorem _root_.Go.V.Has.perm {N : Nat} {S st : St} {l1 l2 : List Ent} (hp : l1.Perm l2) : ∀ {A : List Ent},Has N S st (A ++ l1) -> Has N S st (A ++ l2) := by
 induction hp with
 | nil => intro A h; exact h
 | cons x _ ih =>
  intro A h
  have := ih (A := A ++ [x]) (by simpa only [List.append_assoc,List.cons_append,List.nil_append] using h)
  simpa only [List.append_assoc,List.cons_append,List.nil_append] using this
 | swap x y l =>
  intro A h
  refine h.sub (fun i => if i = A.length then A.length + 1 else if i = A.length + 1 then A.length else i) (fun a b e => ?_) (fun i e hi => ?_)
  ·have e' : (if a = A.length then A.length + 1 else if a = A.length + 1 then A.length else a) = (if b = A.length then A.length + 1 else if b = A.length + 1 then A.length else b) := e
   repeat' split at e'
   all_goals omega
  ·show (A ++ y :: x :: l)[if i = A.length then A.length + 1 else if i = A.length + 1 then A.length else i]? = some e
   rcases Nat.lt_trichotomy i A.length with h1 | h1 | h1
   ·rw [if_neg (by omega),if_neg (by omega),List.getElem?_append_left h1]
    rwa [List.getElem?_append_left h1] at hi
   ·subst h1
    rw [if_pos rfl,List.getElem?_append_right (by omega),Nat.add_sub_cancel_left]
    rw [List.getElem?_append_right (by omega),Nat.sub_self] at hi
    exact hi
   ·rw [if_neg (by omega)]
    rw [List.getElem?_append_right (by omega)] at hi
    by_cases h2 : i = A.length + 1
    ·subst h2
     rw [if_pos rfl,List.getElem?_append_right (by omega),Nat.sub_self]
     rw [Nat.add_sub_cancel_left] at hi
     exact hi
    ·rw [if_neg h2,List.getElem?_append_right (by omega)]
     obtain ⟨m,hm⟩ : ∃ m,i - A.length = m + 2 := ⟨i - A.length - 2,by omega⟩
     rw [hm] at hi ⊢
     exact hi
 | trans _ _ ih1 ih2 => intro A h; exact ih2 (ih1 h)
abbrev Fy := Fl × List (List D)
def bE (p : Fy) : Ent := .lst p.1.b 1 p.2
def fr1 (L : List Fy) : List Fl := L.map (·.1)
structure YOk (L : List Fy) : Prop where
 srt : SrtF (fr1 L)
 len : L.length <= 12
 few : ∀ p ∈ L,p.2.length <= 65536
def YP (N : Nat) (S : St) (H : List Ent) (ky kf : Nat) (a : D) (st : St) : Prop := ∃ x L,YOk L /\ Has N S st (.box ky (.mem 0 false [.ptr kf 0 0,a]) :: .box kf (.mem 0 false [x]) :: .lst x 3 ((fr1 L).map flC) :: (L.map bE ++ H))
theorem fr1_at {L : List Fy} {i : Nat} {r : Fl} (h : (fr1 L)[i]? = some r) : ∃ es,L[i]? = some (r,es) := by
 unfold fr1 at h
 rw [List.getElem?_map] at h
 obtain ⟨⟨r',es⟩,h1,rfl⟩ := Option.map_eq_some_iff.1 h
 exact ⟨es,h1⟩
theorem fr1_get {L : List Fy} {i : Nat} {p : Fy} (h : L[i]? = some p) : (fr1 L)[i]? = some p.1 := by
 unfold fr1; rw [List.getElem?_map,h]; rfl
theorem fr1_len (L : List Fy) : (fr1 L).length = L.length := List.length_map _
theorem fr1_set {L : List Fy} {i : Nat} {p : Fy} : fr1 (L.set i p) = (fr1 L).set i p.1 := by unfold fr1; rw [List.map_set]
theorem fr1_ins {L : List Fy} {i : Nat} {p : Fy} : fr1 (insT L i p) = insT (fr1 L) i p.1 := by simp [fr1,insT]
theorem fr1_era {L : List Fy} {i : Nat} : fr1 (L.eraseIdx i) = (fr1 L).eraseIdx i := by
 unfold fr1
 simp only [List.eraseIdx_eq_take_drop_succ,List.map_append,List.map_take,List.map_drop]
theorem cut_at {L : List Fy} {i : Nat} {p : Fy} (h : L[i]? = some p) : L = L.take i ++ p :: L.drop (i + 1) := by
 have hi := (List.getElem?_eq_some_iff.1 h).1
 rw [List.getElem?_eq_getElem hi] at h
 rw [<- Option.some.inj h, <- List.drop_eq_getElem_cons hi,List.take_append_drop]
theorem take_out {L : List Fy} {i : Nat} {p : Fy} (h : L[i]? = some p) (H : List Ent) : (L.map bE ++ H).Perm (bE p :: ((L.eraseIdx i).map bE ++ H)) := by
 have e1 : (L.map bE ++ H) = ((L.take i).map bE) ++ bE p :: ((L.drop (i + 1)).map bE ++ H) := by
  have := congrArg (fun l => l.map bE ++ H) (cut_at h)
  simpa using this
 have e2 : (L.eraseIdx i).map bE ++ H = ((L.take i).map bE) ++ ((L.drop (i + 1)).map bE ++ H) := by
  rw [List.eraseIdx_eq_take_drop_succ,List.map_append,List.append_assoc]
 rw [e1,e2]
 exact List.perm_middle
theorem put_in {L : List Fy} {i : Nat} {p p' : Fy} (h : L[i]? = some p) (H : List Ent) : (bE p' :: ((L.eraseIdx i).map bE ++ H)).Perm ((L.set i p').map bE ++ H) := by
 have hi := (List.getElem?_eq_some_iff.1 h).1
 have h' : (L.set i p')[i]? = some p' := by rw [List.getElem?_set_self hi]
 have he : (L.set i p').eraseIdx i = L.eraseIdx i := by
  rw [List.eraseIdx_eq_take_drop_succ,List.eraseIdx_eq_take_drop_succ,List.take_set_of_le (Nat.le_refl _),List.drop_set_of_lt (Nat.lt_succ_self _)]
 have := take_out h' H
 rw [he] at this
 exact this.symm
theorem put_new {L : List Fy} {i : Nat} {p : Fy} (H : List Ent) : (bE p :: (L.map bE ++ H)).Perm ((insT L i p).map bE ++ H) := by
 have e1 : (insT L i p).map bE ++ H = ((L.take i).map bE) ++ bE p :: ((L.drop i).map bE ++ H) := by simp [insT]
 have e2 : L.map bE ++ H = ((L.take i).map bE) ++ ((L.drop i).map bE ++ H) := by
  rw [<- List.append_assoc, <- List.map_append,List.take_append_drop]
 rw [e1,e2]
 exact List.perm_middle.symm
theorem oldB_of {N : Nat} {S st : St} {A H : List Ent} {L : List Fy} (h : Has N S st (A ++ (L.map bE ++ H))) : ∀ r ∈ fr1 L,OldB st.bs.length r.b := by
 intro r hr
 obtain ⟨p,hp,rfl⟩ := List.mem_map.1 hr
 obtain ⟨i,hi⟩ := List.getElem?_of_mem hp
 have hil : i < (L.map bE).length := by have := (List.getElem?_eq_some_iff.1 hi).1; simpa using this
 have hj : (A ++ (L.map bE ++ H))[A.length + i]? = some (bE p) := by
  rw [List.getElem?_append_right (by omega),Nat.add_sub_cancel_left,List.getElem?_append_left hil,List.getElem?_map,hi]; rfl
 obtain ⟨h1,h2⟩ := h.ok _ _ hj
 exact OldB.len h1 fun k hk => (h2 k hk).2
theorem YOk.set {L : List Fy} {i : Nat} {p p' : Fy} (h : YOk L) (hi : L[i]? = some p) (hk : p'.1.k = p.1.k) (hl : p'.2.length <= 65536) : YOk (L.set i p') := by
 refine ⟨?_,by rw [List.length_set]; exact h.len,fun q hq => ?_⟩
 ·rw [fr1_set]; exact set_srt h.srt (fr1_get hi) hk
 ·rcases List.mem_or_eq_of_mem_set hq with h' | rfl
  ·exact h.few q h'
  ·exact hl
theorem YOk.ins {L : List Fy} {key : Int} {nm : List UInt8} (h : YOk L) (hl : L.length < 12) (ht : thereT (fr1 L) key = false) : YOk (insT L (findT (fr1 L) key) (⟨key,nm, .nul⟩, [])) := by
 have hn := findT_le (fr1 L) key
 rw [fr1_len] at hn
 refine ⟨?_,by unfold insT; simp; omega,fun q hq => ?_⟩
 ·rw [fr1_ins]; exact ins_srt h.srt ht
 ·unfold insT at hq
  rcases List.mem_append.1 hq with h' | h'
  ·exact h.few q (List.mem_of_mem_take h')
  ·rcases List.mem_cons.1 h' with rfl | h'
   ·simp
   ·exact h.few q (List.mem_of_mem_drop h')
theorem YOk.era {L : List Fy} {i : Nat} (h : YOk L) : YOk (L.eraseIdx i) := by
 refine ⟨?_,Nat.le_trans (List.length_eraseIdx_le ..) h.len,fun q hq => h.few q (List.mem_of_mem_eraseIdx hq)⟩
 rw [fr1_era]; exact era_srt h.srt
theorem set_at {L : List Fy} {i : Nat} {p : Fy} (h : YOk L) (hi : L[i]? = some p) (nm : List UInt8) (b : D) (es : List (List D)) : setTab (fr1 L) p.1.k nm b = fr1 (L.set i (⟨p.1.k,nm,b⟩,es)) := by
 obtain ⟨h1,h2⟩ := find_mem h.srt (fr1_get hi)
 unfold setTab
 rw [if_pos h2,h1,fr1_set]
theorem YOk.small {L : List Fy} (h : YOk L) : (fr1 L).length < 999999 := by rw [fr1_len]; have := h.len; omega
end Go.Proofs.YtopaaegigcfkeaaGreat
