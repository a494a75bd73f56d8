/-
 Code that grows: an instruction more; a split's ways are put in. %deep
-/
import Derived.Test.YtbdilgkfnacahaaQe
namespace Go.Proofs.Ytbdilgkfnacahaa
open Go.V Go
set_option maxRecDepth 100000
set_option maxHeartbeats 4000000
set_option linter.unusedSimpArgs false
set_option linter.unusedVariables false

theorem add_ev {N k : Nat} {S s0 : St} {H : List Ent} {ks : Nat → Prop} {cd nd zd ed w : D} {code : List PIns} {op x y : Int} {rs : List Rg} (hF : S.flr ≤ N) (hl : code.length ≤ 1048576) (hH : Has N S s0 (.lst w 2 (rs.map rangeC) :: .box k (.mem 0 false [cd, nd, zd, ed]) :: .deep ks cd 4 (code.map insC) :: H)) :
  ∃ r st', Ev pv 39 [.ptr k 0 0, .agg [.int .i64 op, .int .i64 x, .int .i64 y, w]] s0 r st' ∧ r = .int .i64 (code.length : Nat) ∧ ∃ cd' ks', Has N S st' (.box k (.mem 0 false [cd', nd, zd, ed]) :: .deep ks' cd' 4 ((code ++ [mkI op x y rs]).map insC) :: H) := by
 refine Ev.mkE rfl fi39 rfl rfl rfl ?_
 dsimp only [List.cons_append, List.nil_append, List.length, Nat.reduceSub, Nat.reduceAdd, List.replicate_succ, List.replicate_zero]
 change EvC _ _ _ _ s0 _
 try refine qy ?_
 repeat refine qq ?_
 try generalize hK : SeqQ _ _ _ _ = K
 refine EvC.reg ?_
 refine qb hH fun k3 st hk3 hH => ?_
 try dsimp only [u2, u1, u3, u4, setMany, u5, u6, D.cells, Nat.reduceAdd, insC] at hH
 refine qm ?_
 refine EvO.nil ?_
 try subst hK
 try refine qy ?_
 repeat refine qq ?_
 try generalize hK : SeqQ _ _ _ _ = K
 refine EvC.reg ?_
 refine qm ?_
 refine qm ?_
 refine qg ?_
 refine qp (o := 0) ?_
 refine ql hH at2 ?_
 refine EvO.hloadS (m := 4) hH rfl (ev rfl) (by exact at0) (by dsimp only [List.drop_succ_cons, List.drop_zero, List.take_succ_cons, List.take_zero, insC] <;> rfl) rfl rfl (put_T rfl _) ?_
 refine qh (s := 4) (vs := [_]) hH fun k11 st hk11 hH => ?_
 try dsimp only [u2, u1, u3, u4, setMany, u5, u6, D.cells, Nat.reduceAdd, insC] at hH
 obtain ⟨hH, hdc⟩ := hH.absorb (i := 2) (j := 4) (by decide) at2 at4 (range_plain _)
 dsimp only [List.set_cons_succ, List.set_cons_zero] at hH
 refine EvO.dappend hH rfl (ev rfl) (ev rfl) at4 (hH.rows at0) (.cons (.cons (.plain _ rfl) (.cons (.plain _ rfl) (.cons (.plain _ rfl) (.cons hdc .nil)))) .nil) rfl rfl rfl rfl rfl rfl rfl ⟨(Nat.le_of_ble_eq_true rfl), (Nat.le_of_ble_eq_true rfl)⟩ (fun _ => (put_T rfl _)) (by simp only [List.length_map, List.length_cons, List.length_nil]; omega) (.inl hF) (fun x12 st hH => ?_)
 dsimp only [List.set_cons_succ, List.set_cons_zero] at hH
 refine qg ?_
 refine qp (o := 0) ?_
 refine EvO.hstore hH rfl (ev rfl) (ev rfl) (by exact hH.dcells (by exact at4)) (by exact rfl) (by exact at3) (by exact Nat.le_of_ble_eq_true rfl) (by exact .inl hF) (fun st hH => ?_)
 try dsimp only [u2, u1, u3, u4, setMany, u5, u6, D.cells, Nat.reduceAdd, insC] at hH
 refine EvO.nil ?_
 try subst hK
 try refine qy ?_
 repeat refine qq ?_
 try generalize hK : SeqQ _ _ _ _ = K
 refine EvC.reg ?_
 refine qm ?_
 refine qg ?_
 refine qp (o := 0) ?_
 refine ql hH at3 ?_
 refine EvO.dlen hH rfl (ev rfl) (by exact at4) rfl (put_T rfl _) ?_
 try simp only [List.length_map, List.length_append, List.length_cons, List.length_nil, List.length_set, List.length_replicate, List.length_reverse]
 refine EvO.subZ (z := ((code.length : Nat) : Int)) rfl (ev rfl) (ev rfl) (by (try simp only [List.length_reverse, List.length_cons, List.length_nil, List.length_append, List.length_map, List.length_set]); rw [wrap_i64 (by omega) (by omega)] <;> omega) (put_T rfl _) ?_
 refine qm ?_
 refine EvO.nil ?_
 try subst hK
 try refine qy ?_
 refine EvC.ret ⟨fun i h => (by cases h), _, _, _, rfl, rfl, ?_⟩
 exact ⟨rfl, _, _, by rw [List.map_append]; exact hH.drop 3⟩

theorem split_ev {N k : Nat} {S s0 : St} {H : List Ent} {ks : Nat → Prop} {cd nd zd ed : D} {code : List PIns} {at_ over : Nat} {lz : Bool} {x y : Int} (hat : code[at_]? = some (mkI 2 x y [])) (hl : code.length ≤ 1048576) (hH : Has N S s0 (.box k (.mem 0 false [cd, nd, zd, ed]) :: .deep ks cd 4 (code.map insC) :: H)) :
  ∃ r st', Ev pv 76 [.ptr k 0 0, .int .i64 (at_ : Nat), .int .i64 (over : Nat), .bool lz] s0 r st' ∧ r = .tup [] ∧ Has N S st' (.box k (.mem 0 false [cd, nd, zd, ed]) :: .deep ks cd 4 ((code.set at_ (spI at_ over lz)).map insC) :: H) := by
 have hlt := lt_get hat
 have hr1 : (code.map insC)[at_]? = some [.int .i64 2, .int .i64 x, .int .i64 y, .sl []] := ins_get hat
 have hfin : ∀ a b : List D, (code.map insC).set at_ a = (code.map insC).set at_ a := fun _ _ => rfl
 refine Ev.mkE rfl fi76 rfl rfl rfl ?_
 dsimp only [List.cons_append, List.nil_append, List.length, Nat.reduceSub, Nat.reduceAdd, List.replicate_succ, List.replicate_zero]
 have hH0 := hH
 have hH := hH.enterRw
 have hS2 : (enterSt .rw s0).bs = s0.bs := rfl
 generalize enterSt .rw s0 = S2 at *
 try refine qy ?_
 repeat refine qq ?_
 try generalize hK : SeqQ _ _ _ _ = K
 refine EvC.reg ?_
 refine qm ?_
 refine qg ?_
 refine qp (o := 0) ?_
 refine ql hH at0 ?_
 refine qm ?_
 refine qm ?_
 refine qg ?_
 refine qp (o := 0) ?_
 refine ql hH at0 ?_
 refine qm ?_
 refine qm ?_
 refine EvO.addZ (z := ((at_ + 1 : Nat) : Int)) rfl (ev rfl) (ev rfl) (by (try simp only [List.length_reverse, List.length_cons, List.length_nil, List.length_append, List.length_map, List.length_set]); rw [wrap_i64 (by omega) (by omega)] <;> omega) (put_T rfl _) ?_
 refine qm ?_
 refine EvO.didx (s := 4) hH rfl (ev rfl) (ev rfl) (by exact at1) rfl rfl (by exact lt_get (by assumption)) (fun _ => (put_T rfl _)) (fun p21 hp21 => ?_)
 refine EvO.ofieldN (fo := 1) (m := 0) (o2 := 1) rfl (ev rfl) (by assumption) rfl rfl rfl (fun _ => (put_T rfl _)) (fun p22 hp22 => ?_)
 refine EvO.dstore hH rfl (ev rfl) (ev rfl) (by assumption) rfl rfl (by exact at1) (by assumption) (Nat.le_of_ble_eq_true rfl) (by intro d hd; simp only [List.mem_cons, List.not_mem_nil, or_false] at hd; subst hd; rfl) (by exact .inr rfl) (fun st hH => ?_)
 try dsimp only [u2, u1, u3, u4, setMany, u5, u6, D.cells, Nat.reduceAdd, insC] at hH
 refine EvO.didx (s := 4) hH rfl (ev rfl) (ev rfl) (by exact at1) rfl rfl (by simp only [List.length_map, List.length_append, List.length_cons, List.length_nil, List.length_set, List.length_replicate] <;> omega) (fun _ => (put_T rfl _)) (fun p23 hp23 => ?_)
 refine EvO.ofieldN (fo := 2) (m := 0) (o2 := 2) rfl (ev rfl) (by assumption) rfl rfl rfl (fun _ => (put_T rfl _)) (fun p24 hp24 => ?_)
 refine EvO.dstore hH rfl (ev rfl) (ev rfl) (by assumption) rfl rfl (by exact at1) (List.getElem?_set_self (by simp only [List.length_set, List.length_map]; omega)) (Nat.le_of_ble_eq_true rfl) (by intro d hd; simp only [List.mem_cons, List.not_mem_nil, or_false] at hd; subst hd; rfl) (by exact .inr rfl) (fun st hH => ?_)
 dsimp only [List.set_cons_succ, List.set_cons_zero, setMany] at hH
 rw [List.set_set] at hH
 refine EvO.nil ?_
 try subst hK
 try refine qy ?_
 repeat refine qq ?_
 try generalize hK : SeqQ _ _ _ _ = K
 refine EvC.reg ?_
 refine qm ?_
 refine EvO.nil ?_
 try subst hK
 try refine qy ?_
 cases lz with
 | false =>
  try refine qy ?_
  repeat refine qq ?_
  refine EvC.cond (v := false) (by rfl) (fun h => by cases h) (fun _ => ?_)
  try refine qy ?_
  refine EvC.skip ?_
  try refine qy ?_
  refine ⟨fun i h => (by cases h), _, _, _, rfl, leaveD_rw rfl, ?_⟩
  exact ⟨rfl, by rw [List.map_set]; exact hH0.leaveRwD hS2 hH⟩
 | true =>
  try refine qy ?_
  repeat refine qq ?_
  refine EvC.cond (v := true) (by rfl) (fun _ => ?_) (fun h => by cases h)
  try refine qy ?_
  repeat refine qq ?_
  try generalize hK : SeqQ _ _ _ _ = K
  refine EvC.reg ?_
  refine qm ?_
  refine qg ?_
  refine qp (o := 0) ?_
  refine ql hH at0 ?_
  refine qm ?_
  refine qm ?_
  refine qg ?_
  refine qp (o := 0) ?_
  refine ql hH at0 ?_
  refine qm ?_
  refine qm ?_
  refine qm ?_
  refine EvO.addZ (z := ((at_ + 1 : Nat) : Int)) rfl (ev rfl) (ev rfl) (by (try simp only [List.length_reverse, List.length_cons, List.length_nil, List.length_append, List.length_map, List.length_set]); rw [wrap_i64 (by omega) (by omega)] <;> omega) (put_T rfl _) ?_
  refine EvO.didx (s := 4) hH rfl (ev rfl) (ev rfl) (by exact at1) rfl rfl (by simp only [List.length_map, List.length_append, List.length_cons, List.length_nil, List.length_set, List.length_replicate] <;> omega) (fun _ => (put_T rfl _)) (fun p39 hp39 => ?_)
  refine EvO.ofieldN (fo := 1) (m := 0) (o2 := 1) rfl (ev rfl) (by assumption) rfl rfl rfl (fun _ => (put_T rfl _)) (fun p40 hp40 => ?_)
  refine EvO.dstore hH rfl (ev rfl) (ev rfl) (by assumption) rfl rfl (by exact at1) (List.getElem?_set_self (by simp only [List.length_set, List.length_map]; omega)) (Nat.le_of_ble_eq_true rfl) (by intro d hd; simp only [List.mem_cons, List.not_mem_nil, or_false] at hd; subst hd; rfl) (by exact .inr rfl) (fun st hH => ?_)
  dsimp only [List.set_cons_succ, List.set_cons_zero, setMany] at hH
  rw [List.set_set] at hH
  refine EvO.didx (s := 4) hH rfl (ev rfl) (ev rfl) (by exact at1) rfl rfl (by simp only [List.length_map, List.length_append, List.length_cons, List.length_nil, List.length_set, List.length_replicate] <;> omega) (fun _ => (put_T rfl _)) (fun p41 hp41 => ?_)
  refine EvO.ofieldN (fo := 2) (m := 0) (o2 := 2) rfl (ev rfl) (by assumption) rfl rfl rfl (fun _ => (put_T rfl _)) (fun p42 hp42 => ?_)
  refine EvO.dstore hH rfl (ev rfl) (ev rfl) (by assumption) rfl rfl (by exact at1) (List.getElem?_set_self (by simp only [List.length_set, List.length_map]; omega)) (Nat.le_of_ble_eq_true rfl) (by intro d hd; simp only [List.mem_cons, List.not_mem_nil, or_false] at hd; subst hd; rfl) (by exact .inr rfl) (fun st hH => ?_)
  dsimp only [List.set_cons_succ, List.set_cons_zero, setMany] at hH
  rw [List.set_set] at hH
  refine EvO.nil ?_
  try subst hK
  try refine qy ?_
  refine ⟨fun i h => (by cases h), _, _, _, rfl, leaveD_rw rfl, ?_⟩
  exact ⟨rfl, by rw [List.map_set]; exact hH0.leaveRwD hS2 hH⟩
end Go.Proofs.Ytbdilgkfnacahaa
