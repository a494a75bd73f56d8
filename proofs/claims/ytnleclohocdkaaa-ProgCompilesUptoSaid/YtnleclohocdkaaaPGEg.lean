/- own -/
import Derived.Test.YtnleclohocdkaaaPGGa
import Derived.Test.YtnleclohocdkaaaPGJj
import Derived.Test.YtnleclohocdkaaaPGQe
set_option maxRecDepth 100000
set_option maxHeartbeats 4000000
set_option linter.unusedSimpArgs false
set_option linter.unusedVariables false
namespace Go.Proofs.Ytnleclohocdkaaa
open Go.V Go
theorem tsfa {P : Nod -> Prop} (l : List Tr) : (∀ n ∈ (trsOf l).flat,P n) ↔ ∀ t ∈ l,t.fa P := by rw [<- Trs.fa_flat,trs_fa,trs_l]
theorem trs_flat_drop {l : List Tr} {i : Nat} {t : Tr} (h : l[i]? = some t) : (trsOf (l.drop i)).flat = t.flat ++ (trsOf (l.drop (i + 1))).flat := by
 obtain ⟨h3,h4⟩ := List.getElem?_eq_some_iff.1 h;rw [List.drop_eq_getElem_cons h3,h4]; rfl
theorem Tr.flat_eq (t : Tr) : t.flat = t.n :: (trsOf t.ks).flat := by
 cases t; simp only [Tr.flat,Tr.n,Tr.ks,trs_of]
theorem Tr.ok_eq {t : Tr} : t.ok ↔ nodOk t.n t.ks.length /\ ∀ k ∈ t.ks,k.ok := by
 cases t with
 | mk n ks =>
  have : ∀ ks : Trs,ks.ok ↔ ∀ k ∈ ks.l,k.ok := by
   intro ks
   induction ks using Trs.rec (motive_1 := fun _ => True) with
   | mk n ks _ => trivial
   | nil => simp [Trs.ok,Trs.l]
   | cons t ts _ ih => simp only [Trs.ok,Trs.l,List.mem_cons,forall_eq_or_imp,ih]
  simp only [Tr.ok,Tr.n,Tr.ks,trs_len,this]
def tz : List D := [.int .i64 0, .nul, .int .i64 0, .int .i64 0, .bool false, .int .i64 0, .int .i64 0, .nul]
def ixF_Gc (fr : Go.V.Fr) (k : Nat) : Go.V.D := Go.V.nth .junk fr.loc k
theorem read_ev {l : List Nod} (hl : l.length <= 1048576) (hv : ∀ n ∈ l,NdV n) {x : D} (hx : SlD x 7 (l.map nodC)) : ∀ (m : Nat) (t : Tr),t.cnt <= m -> m <= 1048576 -> t.ok -> ∀ (s0 : St) (at_ : Nat),Seg l at_ t.flat -> Ev pv 54 [x, .int .i64 (at_ : Nat)] s0 (.tup [.agg (tC t), .int .i64 ((at_ + t.flat.length : Nat) : Int)]) s0
 | 0,t,h,_,_,_,_,_ => by have := Tr.cnt_eq t; omega
 | m + 1,t,h,hm,hok,s0,at_,hsg => by
  suffices hg : ∃ d,Ev pv 54 [x, .int .i64 (at_ : Nat)] s0 d s0 /\ d = .tup [.agg (tC t), .int .i64 ((at_ + t.flat.length : Nat) : Int)] by
   obtain ⟨_,h1,rfl⟩ := hg;exact h1
  have hkc := Tr.cnt_eq t;have hkl := cntL_len t.ks;obtain ⟨ho,hks⟩ := Tr.ok_eq.1 hok;have hkk : t.n.kids = (t.ks.length : Nat) := ho.1;have hfl := Tr.flat_eq t;rw [hfl] at hsg ⊢;have hle := hsg.le (by simp);simp only [List.length_cons] at hle;have hn := hsg.head;have hsg := hsg.tail;have hr1 := nod_get hn;have hnv := hv t.n (List.mem_of_getElem? hn)
  have hall : ∀ k ∈ t.ks,k.fa NdV := (tsfa (P := NdV) t.ks).1 (fun n hn => by
   obtain ⟨post,hp⟩ := hsg
   exact hv n (List.mem_of_mem_drop (hp ▸ List.mem_append_left _ hn)))
  refine Ev.mkR rfl fi54 rfl rfl rfl ?_;dsimp only [u3,u4,List.length,Nat.reduceSub,Nat.reduceAdd,w1,w2];obtain ⟨hSb,hF,hH⟩ := ri s0;generalize enterSt .ro s0 = S at *;have hx := hx.arg s0.bs.length S;refine qq ?_;refine qj fun K hK => ?_;refine qa hH fun k4 st hk4 hH => ?_;refine qm ?_;refine qe hK ?_;refine qq ?_;refine qj fun K hK => ?_;refine qm ?_;refine qm ?_;refine qr fun p12 hp12 => ?_;refine EvO.rloadS rfl (ev rfl) (by assumption) rfl (put_T rfl _) ?_;refine EvO.go (d := .agg (nodC t.n ++ [.nul])) (st1 := _) rfl rfl rfl (put_T rfl _) ?_;refine qa hH fun k6 st hk6 hH => ?_;refine qS hH at0 fun st hH => ?_;dsimp only [u2,u1,u3,u4,setMany,u5,u6,D.cells,Nat.reduceAdd,tC,trC,nodC] at hH;refine qe hK ?_;refine qq ?_;refine qj fun K hK => ?_;refine qm ?_;refine qA ?_;refine qm ?_;refine qe hK ?_;refine qq ?_;refine qq ?_;refine qj fun K hK => ?_;refine qm ?_;refine qe hK ?_;have hH : Has s0.bs.length S st (.box k6 (.mem 0 false (trC t.n .nul)) :: .lst .nul 8 (([] : List Tr).map tC) :: .box k4 (.mem 0 false tz) :: []) := Has.rot [_] [_] (hH.nulE 8);refine EvC.block ?_;refine EvC.loop (fun mm fr st => ∃ (i j : Nat) (kd : D),fr.clean = ⟨10, [x, .int .i64 (j : Nat),ixF_Gc fr 2,ixF_Gc fr 3, .ptr k4 0 0,ixF_Gc fr 5, .ptr k6 0 0, .int .i64 (i : Nat),ixF_Gc fr 8,ixF_Gc fr 9], []⟩ /\ Has s0.bs.length S st (.box k6 (.mem 0 false (trC t.n kd)) :: .lst kd 8 ((t.ks.take i).map tC) :: .box k4 (.mem 0 false tz) :: []) /\ (i + mm = t.ks.length) /\ (Seg l j (trsOf (t.ks.drop i)).flat) /\ (j + (trsOf (t.ks.drop i)).flat.length = at_ + 1 + (trsOf t.ks).flat.length) /\ (∀ k,kd.ref = k + 1 -> S.bs.length <= k)) (t.ks.length) ?_ ?_
  ·exact ⟨0,at_ + 1, .nul,rfl,hH,by omega,hsg,rfl,fun k hk => by simp only [D.ref] at hk; omega⟩
  rintro mm fr st ⟨i,j,kd,hfr,hH,hi,hj,hje,hod⟩;rw [hfr];clear hfr;generalize ixF_Gc fr = ee;clear fr;refine qq ?_;refine qq ?_;refine qj fun K hK => ?_;refine qm ?_;refine qp (o := 0) ?_;refine qp (o := 6) ?_;refine ql hH at0 ?_;refine qg ?_;refine qe hK ?_;refine EvC.cond (by rfl) (fun h1 => ?_) (fun h1 => ?_) <;> try simp only [decide_eq_true_eq,decide_eq_false_iff_not] at h1
  ·refine EvC.skip ?_
   obtain ⟨p,hp⟩ : ∃ p,t.ks[i]? = some p := ⟨t.ks[i]'(by omega),List.getElem?_eq_getElem _⟩
   have hpm := List.mem_of_getElem? hp;have hpc := cntL_mem hpm;rw [trs_flat_drop hp] at hj hje;rw [List.length_append] at hje;have hgr := fun st => read_ev hl hv ‹_› m p (by omega) (by omega) (hks p hpm) st j hj.left;refine qq ?_;refine EvC.block ?_;refine qq ?_;refine qj fun K hK => ?_;refine qm ?_;refine qm ?_;refine qv ((hgr _)) ?_;refine qm ?_;refine qg ?_;refine qg ?_;refine qa hH fun k8 st hk8 hH => ?_;dsimp only [u2,u1,u3,u4,setMany,u5,u6,D.cells,Nat.reduceAdd,tC,trC,nodC] at hH;refine qS hH at0 fun st hH => ?_;dsimp only [u2,u1,u3,u4,setMany,u5,u6,D.cells,Nat.reduceAdd,tC,trC,nodC] at hH;refine qm ?_;refine qe hK ?_;have hH : Has s0.bs.length S st (.box k8 (.mem 0 false (tC p)) :: .box k6 (.mem 0 false (trC t.n kd)) :: .lst kd 8 ((t.ks.take i).map tC) :: .box k4 (.mem 0 false tz) :: []) := hH;refine qq ?_;refine qj fun K hK => ?_;refine qp (o := 7) ?_;refine EvO.hload hH rfl (ev rfl) at1 rfl (put_T rfl _) ?_;refine EvO.hloadS (m := 8) (r := tC p) hH rfl (ev rfl) at0 rfl rfl rfl (put_T rfl _) ?_;refine qh (s := 8) (vs := [_]) hH fun k33 st hk33 hH => ?_;dsimp only [u2,u1,u3,u4,setMany,u5,u6,D.cells,Nat.reduceAdd,tC,trC,nodC] at hH;refine EvO.happend5 (s := 8) hH rfl (ev rfl) (ev rfl) at3 (hH.rows at0) rfl rfl rfl rfl rfl rfl rfl ⟨(Nat.le_of_ble_eq_true rfl),(Nat.le_of_ble_eq_true rfl)⟩ (fun _ => (put_T rfl _)) (by simp only [List.length_map,List.length_take,List.length_cons,List.length_nil]; omega) (.inl hF) hod (fun x34 st hod hH => ?_);dsimp only [u1,u2] at hH;refine qp (o := 7) ?_;refine qT hH at2 (fun st hH => ?_) (hcs := hH.ocells at3);dsimp only [u2,u1,u3,u4,setMany,u5,u6,D.cells,Nat.reduceAdd,tC,trC,nodC] at hH;refine qe hK ?_;have hH := hH.drop 2;refine qj fun K hK => ?_;refine qm ?_;refine qm ?_;refine qe hK ?_;refine qj fun K hK => ?_;refine qm ?_;refine qA ?_;refine qm ?_;refine qe hK ?_;exact ⟨mm - 1,by omega,⟨i + 1,j + p.flat.length,x34,rfl,(by rw [List.take_add_one,hp,List.map_append]; exact hH),by omega,hj.right,by omega,hod⟩⟩
  ·refine EvC.exit ?_;have he : i = t.ks.length := by omega
   rw [he,List.drop_length] at hje;rw [he,List.take_length] at hH;have hj0 : (trsOf []).flat.length = 0 := rfl;rw [hj0] at hje;have hfew : ∀ k ∈ t.ks,k.fa NdR := fun k hk => (Tr.fa_flat k).2 (fun n hn => ⟨((Tr.fa_flat k).1 (hall k hk) n hn).1,((Tr.fa_flat k).1 (hall k hk) n hn).2.1⟩);refine qq ?_;refine qj fun K hK => ?_;refine EvO.hloadS (m := 8) (r := trC t.n kd) hH rfl (ev rfl) at0 rfl rfl rfl (put_T rfl _) ?_;refine qm ?_;refine EvO.hstoreA hH rfl (ev rfl) (ev rfl) rfl (by exact rfl) at2 (by exact rfl) (.inl hF) (fun st hH => ?_);dsimp only [u1,u2] at hH;refine qm ?_;refine qe hK ?_;have hH : Has s0.bs.length S st (.box k6 (.mem 0 false (trC t.n kd)) :: .lst kd 8 (t.ks.map tC) :: .box k4 (.mem 0 false (trC t.n kd)) :: []) := hH;have hkd : freezeD st s0.bs.length false 14 kd = some (kidD t.ks) := by rw [kid_eq]; exact hH.freeze at1 (t_plain hfew) (n := 13) (by decide)
   have hag : freezeD st s0.bs.length false 15 (.agg (trC t.n kd)) = some (.agg (tC t)) := by
    show (mapO (freezeD st s0.bs.length false 14) (trC t.n kd)).map D.agg = _;have hrd : freezeD st s0.bs.length false 14 t.n.rd = some t.n.rd := by rw [hnv.1]; rfl
    simp only [trC,mapO,hkd,hrd]
    rfl
   refine EvC.ret ⟨rx,_,_,hH.resCellT rfl at2 rfl rfl,rl hSb hH (d' := .tup [.agg (tC t), .int .i64 (j : Nat)]) ?_,?_⟩
   ·show (mapO (freezeD st s0.bs.length false 15) [.agg (trC t.n kd), .int .i64 (j : Nat)]).map D.tup = _;simp only [mapO,hag]
    rfl
   ·rw [show j = at_ + ((trsOf t.ks).flat.length + 1) by omega]
def szL (l : List Tr) : Nat := (l.map Tr.sz).sum
theorem trs_sz : ∀ ks : Trs,ks.sz = szL ks.l
 | .nil => rfl
 | .cons t ts => by simp only [Trs.sz,Trs.l,szL,List.map_cons,List.sum_cons,trs_sz ts]
theorem Tr.sz_eq (t : Tr) : t.sz = nodSz t.n (szL t.ks) t.ks.length := by
 cases t with
 | mk n ks => simp only [Tr.sz,Tr.n,Tr.ks,trs_sz,trs_len]
theorem szL_zero {l : List Tr} : szL l = 0 ↔ ∀ k ∈ l,k.sz = 0 := by
 induction l with
 | nil => simp [szL]
 | cons t l ih =>
  have e : szL (t :: l) = t.sz + szL l := by simp [szL]
  rw [e];constructor
  ·intro h k hk
   rcases List.mem_cons.1 hk with rfl | hk
   ·omega
   ·exact ih.1 (by omega) k hk
  ·intro h;have h1 := h t (List.mem_cons_self ..);have h2 := ih.2 fun k hk => h k (List.mem_cons_of_mem _ hk);omega
theorem quiet_is {t : Tr} (ho : nodOk t.n t.ks.length) : decide (t.sz = 0) = (if t.n.op = 1 then true else if t.n.op = 3 then decide (∀ k ∈ t.ks,k.sz = 0) else if t.n.op = 5 then ((t.n.mx == 0) || ((t.n.mn == t.n.mx) && decide (szL t.ks = 0))) else false) := by
 rw [Tr.sz_eq];unfold nodSz;unfold nodOk at ho
 by_cases q1 : t.n.op = 1
 ·have hk : t.ks = [] := by
   have : t.ks.length = 0 := by omega
   exact List.length_eq_zero_iff.1 this
  simp [q1,hk,szL]
 rw [if_neg q1]
 by_cases q3 : t.n.op = 3
 ·simp only [q3];simp [szL_zero]
 rw [if_neg q3]
 by_cases q5 : t.n.op = 5
 ·have h5 : 0 <= t.n.mn /\ t.n.mn <= 30 /\ (t.n.mx = -1 \/ (t.n.mn <= t.n.mx /\ t.n.mx <= 30)) := by omega
  generalize szL t.ks = z;simp only [q5];simp only [show ¬ ((5 : Int) = 2 \/ (5 : Int) = 7 \/ (5 : Int) = 8) by decide,show ¬ ((5 : Int) = 4) by decide,show ¬ ((5 : Int) = 6) by decide,if_false,if_true]
  by_cases qm : t.n.mx = -1
  ·rw [if_pos qm];have hb : (t.n.mn == t.n.mx) = false := by simp; omega
   rw [hb,qm];simp
  ·rw [if_neg qm];obtain ⟨a,ha⟩ : ∃ a : Nat,t.n.mn = (a : Int) := Int.eq_ofNat_of_zero_le h5.1;obtain ⟨b,hb⟩ : ∃ b : Nat,t.n.mx = (b : Int) := Int.eq_ofNat_of_zero_le (by omega);rw [ha,hb];have hab : a <= b := by omega
   simp only [Int.toNat_natCast];rw [Bool.eq_iff_iff];simp only [decide_eq_true_eq,Bool.or_eq_true,Bool.and_eq_true,beq_iff_eq,Nat.add_eq_zero_iff,Nat.mul_eq_zero];omega
 rw [if_neg q5,if_neg q5]
 by_cases q2 : t.n.op = 2 \/ t.n.op = 7 \/ t.n.op = 8
 ·rw [if_pos q2]; rfl
 rw [if_neg q2]
 by_cases q4 : t.n.op = 4
 ·have hk2 : 2 <= t.ks.length := by omega
  rw [if_pos q4,decide_eq_false]; omega
 rw [if_neg q4]
 by_cases q6 : t.n.op = 6
 ·rw [if_pos q6]; simp
 exact absurd ho.2 (by omega)
theorem quiet_ev : ∀ (m : Nat) (t : Tr),t.cnt <= m -> m <= 1048576 -> t.ok -> t.fa NdR -> ∀ s0 : St,Ev pv 106 [.agg (tC t)] s0 (.bool (decide (t.sz = 0))) s0
 | 0,t,h,_,_,_,_ => by have := Tr.cnt_eq t; omega
 | m + 1,t,h,hm,hok,hfa,s0 => by
  have hkc := Tr.cnt_eq t;have hkl := cntL_len t.ks;obtain ⟨ho,hko⟩ := Tr.ok_eq.1 hok;have hkf := (Tr.fa_eq.1 hfa).2;have hrec : ∀ k ∈ t.ks, ∀ s,Ev pv 106 [.agg (tC k)] s (.bool (decide (k.sz = 0))) s := fun k hk s => quiet_ev m k (by have := cntL_mem hk; omega) (by omega) (hko k hk) (hkf k hk) s;rw [quiet_is ho];refine Ev.mk1 rfl fi106 rfl rfl rfl ?_;dsimp only [u3,u4,List.length,Nat.reduceSub,Nat.reduceAdd,w1,w2];obtain ⟨hSb,hF,hH⟩ := ri s0;generalize enterSt .ro s0 = S at *;have hks0 : V.Rows s0 8 (kidD t.ks) (t.ks.map tC) := kid_rows s0 hkf;have hka := Arg.of hks0 hSb;refine qq ?_;refine qj fun K hK => ?_;refine qb hH fun k1 st hk1 hH => ?_;dsimp only [u2,u1,u3,u4,setMany,u5,u6,D.cells,Nat.reduceAdd,tC,trC,nodC] at hH;refine qm ?_;refine qe hK ?_;refine qq ?_;refine qq ?_;refine qj fun K hK => ?_;refine qp (o := 0) ?_;refine qp (o := 0) ?_;refine ql hH at0 ?_;refine qe hK ?_;refine EvC.block ?_;refine qq ?_;refine qj fun K hK => ?_;refine qg ?_;refine qm ?_;refine qe hK ?_
  by_cases q1 : t.n.op = 1
  ·rw [if_pos q1];refine qD rfl (by simp [q1]) ?_;refine qq ?_;refine qj fun K hK => ?_;refine qm ?_;refine qe hK ?_;refine EvC.ret ⟨rx,_,rfl,rl hSb hH (rfl)⟩
  rw [if_neg q1];refine qE rfl (by simp [q1]) ?_;refine qq ?_;refine qj fun K hK => ?_;refine qg ?_;refine qm ?_;refine qe hK ?_
  by_cases q3 : t.n.op = 3
  ·rw [if_pos q3];refine qD rfl (by simp [q3]) ?_;refine qq ?_;refine qq ?_;refine qj fun K hK => ?_;refine qm ?_;refine qe hK ?_;refine EvC.block ?_;refine EvC.loop (fun mm fr st => ∃ (i : Nat),fr.clean = ⟨7, [ixF_Gc fr 0, .ptr k1 0 0,ixF_Gc fr 2, .int .i64 (i : Nat),ixF_Gc fr 4,ixF_Gc fr 5,ixF_Gc fr 6], []⟩ /\ Has s0.bs.length S st (.box k1 (.mem 0 false (tC t)) :: []) /\ (i + mm = t.ks.length) /\ (∀ k ∈ t.ks.take i,k.sz = 0)) (t.ks.length) ?_ ?_
   ·exact ⟨0,rfl,hH,by omega,by simp⟩
   rintro mm fr st ⟨i,hfr,hH,hi,hq⟩;rw [hfr];clear hfr;generalize ixF_Gc fr = ee;clear fr;refine qq ?_;refine qq ?_;refine qj fun K hK => ?_;refine qm ?_;refine qp (o := 7) ?_;refine ql hH at0 ?_;refine qn ?_;simp only [List.length_map];refine qg ?_;refine qe hK ?_;refine EvC.cond (by rfl) (fun h1 => ?_) (fun h1 => ?_) <;> try simp only [decide_eq_true_eq,decide_eq_false_iff_not] at h1
   ·refine EvC.skip ?_
    obtain ⟨p,hp⟩ : ∃ p,t.ks[i]? = some p := ⟨t.ks[i]'(by omega),List.getElem?_eq_getElem _⟩
    have hpm := List.mem_of_getElem? hp;have hr1 := t_get hp;refine qq ?_;refine EvC.block ?_;refine qq ?_;refine qj fun K hK => ?_;refine qp (o := 7) ?_;refine ql hH at0 ?_;refine qm ?_;refine qr fun p21 hp21 => ?_;refine EvO.rloadS rfl (ev rfl) (by assumption) rfl (put_T rfl _) ?_;refine qv ((hrec p hpm _)) ?_;refine qg ?_;refine qe hK ?_
    by_cases hz : p.sz = 0
    ·refine qE rfl (by simp [hz]) ?_;refine EvC.skip ?_;refine qj fun K hK => ?_;refine qm ?_;refine qA ?_;refine qm ?_;refine qe hK ?_;exact ⟨mm - 1,by omega,⟨i + 1,rfl,hH,by omega,(by rw [List.take_add_one,hp]; intro k hk; rcases List.mem_append.1 hk with hk | hk; exact hq k hk; have := List.mem_singleton.1 hk; rw [this]; exact hz)⟩⟩
    ·have hF : decide (∀ k ∈ t.ks,k.sz = 0) = false := decide_eq_false fun h => hz (h p hpm);rw [hF];refine qD rfl (by simp [hz]) ?_;refine qq ?_;refine qj fun K hK => ?_;refine qm ?_;refine qe hK ?_;refine EvC.ret ⟨rx,_,rfl,rl hSb hH (rfl)⟩
   ·refine EvC.exit ?_;have he : i = t.ks.length := by omega
    rw [he,List.take_length] at hq;have hT : decide (∀ k ∈ t.ks,k.sz = 0) = true := decide_eq_true hq;rw [hT];refine qq ?_;refine qj fun K hK => ?_;refine qm ?_;refine qe hK ?_;refine EvC.ret ⟨rx,_,rfl,rl hSb hH (rfl)⟩
  rw [if_neg q3];refine qE rfl (by simp [q3]) ?_;refine qq ?_;refine qj fun K hK => ?_;refine qg ?_;refine qm ?_;refine qe hK ?_
  by_cases q5 : t.n.op = 5
  ·rw [if_pos q5];have hk1 : t.ks.length = 1 := by unfold nodOk at ho; omega
   obtain ⟨p,hp⟩ : ∃ p,t.ks = [p] := List.length_eq_one_iff.1 hk1;have hpm : p ∈ t.ks := by rw [hp]; simp
   have hz : szL t.ks = p.sz := by rw [hp]; simp [szL]
   have hr1 : (t.ks.map tC)[0]? = some (tC p) := by rw [hp]; rfl
   rw [hz];refine qD rfl (by simp [q5]) ?_;refine qq ?_;refine EvC.cutL 2 (.bool ((t.n.mx == 0) || ((t.n.mn == t.n.mx) && decide (p.sz = 0)))) [] ?_ (fun ff tmp => ?_)
   ·refine qp (o := 0) ?_;refine qp (o := 3) ?_;refine ql hH at0 ?_;refine qg ?_;refine qm ?_;refine EvO.two 31 rfl (fun hg4 => ?_) (fun hg4 => ?_)
    ·refine qs ?_ (hg := wn hg4);refine qs ?_ (hg := wn hg4);refine qs ?_ (hg := wn hg4);refine qs ?_ (hg := wn hg4);refine qs ?_ (hg := wn hg4);refine qs ?_ (hg := wn hg4);refine qs ?_ (hg := wn hg4);refine qs ?_ (hg := wn hg4);refine qs ?_;refine qs ?_;refine qs ?_;refine qs ?_;refine qs ?_;refine qs ?_ (hg := wn hg4);refine qt hg4 ?_;refine qm ?_;refine EvO.nil (leafL ?_);dsimp only [setW,List.foldl,nth,u2,u1];dsimp only [Fr.putO,Fr.put,Fr.clean,Fr.ev,Fr.get,nth,V.look,u1,u2,v1,v2,v3,v4,v5,v6,v7,List.length,u3,u4,Nat.reduceSub,Nat.reduceAdd,List.map]
     all_goals (simp [hg4]; done)
    ·refine qp (o := 0) ?_ (hg := wi hg4);refine qp (o := 2) ?_ (hg := wi hg4);refine ql hH at0 ?_ (hg := wi hg4);refine qp (o := 0) ?_ (hg := wi hg4);refine qp (o := 3) ?_ (hg := wi hg4);refine ql hH at0 ?_ (hg := wi hg4);refine qg ?_ (hg := wi hg4);refine qm ?_ (hg := wi hg4);refine EvO.two 39 rfl (fun hg12 => ?_) (fun hg12 => ?_)
     ·refine qp (o := 7) ?_ (hg := wi hg12);refine ql hH at0 ?_ (hg := wi hg12);refine qr (fun p42 hp42 => ?_) (hg := wi hg12);refine EvO.rloadS (wantD_is rfl rfl rfl hg12) (ev rfl) (by assumption) rfl (put_T rfl _) ?_;refine qv ((hrec p hpm _)) ?_ (hg := wi hg12);refine EvO.pickT (wantD_is rfl rfl rfl hg4) rfl hg12 (put_T rfl _) ?_;refine qu hg4 ?_;refine qm ?_;refine EvO.nil (leafL ?_);dsimp only [setW,List.foldl,nth,u2,u1];dsimp only [Fr.putO,Fr.put,Fr.clean,Fr.ev,Fr.get,nth,V.look,u1,u2,v1,v2,v3,v4,v5,v6,v7,List.length,u3,u4,Nat.reduceSub,Nat.reduceAdd,List.map]
      all_goals (simp [hg4,hg12]; done)
     ·refine qs ?_ (hg := wn hg12);refine qs ?_ (hg := wn hg12);refine qs ?_ (hg := wn hg12);refine qs ?_ (hg := wn hg12);refine qs ?_ (hg := wn hg12);refine EvO.pickF (wantD_is rfl rfl rfl hg4) rfl hg12 (put_T rfl _) ?_;refine qu hg4 ?_;refine qm ?_;refine EvO.nil (leafL ?_);dsimp only [setW,List.foldl,nth,u2,u1];dsimp only [Fr.putO,Fr.put,Fr.clean,Fr.ev,Fr.get,nth,V.look,u1,u2,v1,v2,v3,v4,v5,v6,v7,List.length,u3,u4,Nat.reduceSub,Nat.reduceAdd,List.map]
      all_goals (simp [hg4,hg12]; done)
   dsimp only [setW,List.foldl,nth,u2,u1];refine EvC.ret ⟨rx,_,rfl,rl hSb hH (rfl)⟩
  ·rw [if_neg q5];refine qE rfl (by simp [q5]) ?_;refine EvC.skip ?_;refine qq ?_;refine qj fun K hK => ?_;refine qm ?_;refine qe hK ?_;refine EvC.ret ⟨rx,_,rfl,rl hSb hH (rfl)⟩
def CoH (N : Nat) (S st : St) (k : Nat) (H : List Ent) (full : List PIns) : Prop :=
 ∃ (cd : D) (dk : Nat -> Prop) (code : List PIns) (big : Bool),Has N S st (.box k (.mem 0 false [cd, .bool big]) :: .deep dk cd 4 (code.map insC) :: H) /\
  ((big = false /\ code = full /\ full.length <= 400) \/ (big = true /\ code.length = 400 /\ 400 < full.length))
theorem CoH.more {N : Nat} {S st : St} {k : Nat} {H : List Ent} {full more : List PIns} {cd : D} {dk : Nat -> Prop} {code : List PIns} (hH : Has N S st (.box k (.mem 0 false [cd, .bool true]) :: .deep dk cd 4 (code.map insC) :: H)) (h1 : code.length = 400) (h2 : 400 < full.length) : CoH N S st k H (full ++ more) :=
 ⟨cd,dk,code,true,hH, .inr ⟨rfl,h1,by rw [List.length_append]; omega⟩⟩
theorem cput_ev {N k : Nat} {S s0 : St} {H : List Ent} {w : D} {full : List PIns} {op x y : Int} {rs : List Rg} (hF : S.flr <= N) (hw : (w = .nul /\ rs = []) \/ w = .sl ((rs.map rangeC).map (elD 2))) (hM : CoH N S s0 k H full) :
  ∃ r st',Ev pv 55 [.ptr k 0 0, .agg [.int .i64 op, .int .i64 x, .int .i64 y,w]] s0 r st' /\ r = .int .i64 ((if full.length < 400 then full.length else 0 : Nat) : Int) /\ CoH N S st' k H (full ++ [mkI op x y rs]) := by
 obtain ⟨cd,dk,code,big,hH,hO⟩ := hM
 have hdc : ∀ (st : St) (ks : Nat -> Prop),DeepC st ks w (.sl ((rs.map rangeC).map (elD 2))) := by
  intro st ks
  rcases hw with ⟨rfl,h⟩ | rfl
  ·subst h; exact .lst .nul 2 [] .nul (by simp) (by simp [D.ref])
  ·exact .plain _ rfl
 have hrf : w.ref = 0 := by rcases hw with ⟨rfl,_⟩ | rfl <;> rfl
 have hcl : code.length <= 400 := by rcases hO with ⟨_,rfl,h⟩ | ⟨_,h,_⟩ <;> omega
 refine Ev.mkE rfl fi55 rfl rfl rfl ?_;dsimp only [u3,u4,List.length,Nat.reduceSub,Nat.reduceAdd,w1,w2];change EvC _ _ _ _ s0 _;refine qq ?_;refine qj fun K hK => ?_;refine qb hH fun k3 st hk3 hH => ?_;refine qm ?_;refine qe hK ?_;refine qq ?_;refine qq ?_;refine qj fun K hK => ?_;refine qm ?_;refine qg ?_;refine qp (o := 0) ?_;refine ql hH at1 ?_;refine EvO.dlen hH rfl (ev rfl) (by exact at2) rfl (put_T rfl _) ?_;simp only [List.length_map];refine qg ?_;refine qe hK ?_
 by_cases h4 : 400 <= code.length
 ·have hfu : 400 <= full.length := by rcases hO with ⟨_,rfl,h⟩ | ⟨_,h,h5⟩ <;> omega
  refine qD rfl (by simp; omega) ?_;refine qq ?_;refine qj fun K hK => ?_;refine qm ?_;refine qg ?_;refine qp (o := 1) ?_;refine qT hH at1 fun st hH => ?_;dsimp only [u2,u1,u3,u4,setMany,u5,u6,D.cells,Nat.reduceAdd,insC] at hH;refine qe hK ?_;refine qq ?_;refine qj fun K hK => ?_;refine qm ?_;refine qe hK ?_;refine EvC.ret ⟨rx,_,_,_,rfl,rfl,?_⟩;refine ⟨?_,cd,dk,code,true,hH.drop 1, .inr ⟨rfl,by omega,by rw [List.length_append]; simp; omega⟩⟩;rw [if_neg (by omega)]; rfl
 ·obtain ⟨rfl,rfl,h⟩ : big = false /\ code = full /\ full.length <= 400 := by
   rcases hO with h | h
   ·exact h
   ·omega
  refine qE rfl (by simp; omega) ?_;refine EvC.skip ?_;refine qq ?_;refine qj fun K hK => ?_;refine qm ?_;refine qm ?_;refine qg ?_;refine qp (o := 0) ?_;refine ql hH at1 ?_;refine EvO.hloadS (m := 4) hH rfl (ev rfl) (by exact at0) (by dsimp only [List.drop_succ_cons,List.drop_zero,List.take_succ_cons,List.take_zero,insC] <;> rfl) rfl rfl (put_T rfl _) ?_;refine qh (s := 4) (vs := [_]) hH fun k20 st hk20 hH => ?_;refine EvO.dappend hH rfl (ev rfl) (ev rfl) at3 (hH.rows at0) (.cons (.cons (.plain _ rfl) (.cons (.plain _ rfl) (.cons (.plain _ rfl) (.cons (hdc _ _) .nil)))) .nil) rfl rfl rfl rfl rfl rfl rfl ⟨(Nat.le_of_ble_eq_true rfl),(Nat.le_of_ble_eq_true rfl)⟩ (fun _ => (put_T rfl _)) (by simp only [List.length_map,List.length_cons,List.length_nil]; omega) (.inl hF) (fun x21 st hH => ?_);dsimp only [u1,u2] at hH;refine qg ?_;refine qp (o := 0) ?_;refine EvO.hstore hH rfl (ev rfl) (ev rfl) (by exact hH.dcells (by exact at3)) (by exact rfl) (by exact at2) (by exact Nat.le_of_ble_eq_true rfl) (by exact .inl hF) (fun st hH => ?_);dsimp only [u2,u1,u3,u4,setMany,u5,u6,D.cells,Nat.reduceAdd,insC] at hH;refine qe hK ?_;refine qq ?_;refine qj fun K hK => ?_;refine qm ?_;refine qg ?_;refine qp (o := 0) ?_;refine ql hH at2 ?_;refine EvO.dlen hH rfl (ev rfl) (by exact at3) rfl (put_T rfl _) ?_;simp only [List.length_map,List.length_append,List.length_cons,List.length_nil];refine EvO.subZ (z := ((code.length : Nat) : Int)) rfl (ev rfl) (ev rfl) (by (try simp only [List.length_reverse,List.length_cons,List.length_nil,List.length_append,List.length_map,List.length_set]); rw [wrap_i64 (by omega) (by omega)] <;> omega) (put_T rfl _) ?_;refine qm ?_;refine qe hK ?_;refine EvC.ret ⟨rx,_,_,_,rfl,rfl,?_⟩;exact ⟨by rw [if_pos (by omega)]; rfl,_,_,code ++ [mkI op x y rs],false,by rw [List.map_append]; exact hH.drop 2, .inl ⟨rfl,rfl,by rw [List.length_append]; simp; omega⟩⟩
theorem fork_ev {N k : Nat} {S s0 : St} {H : List Ent} {ks : Nat -> Prop} {cd : D} {big : Bool} {code : List PIns} {at_ over : Nat} {lz : Bool} {x y : Int} (hat : code[at_]? = some (mkI 2 x y [])) (hl : code.length <= 1048576) (hH : Has N S s0 (.box k (.mem 0 false [cd, .bool big]) :: .deep ks cd 4 (code.map insC) :: H)) :
  ∃ r st',Ev pv 107 [.ptr k 0 0, .int .i64 (at_ : Nat), .int .i64 (over : Nat), .bool lz] s0 r st' /\ r = .tup [] /\ Has N S st' (.box k (.mem 0 false [cd, .bool big]) :: .deep ks cd 4 ((code.set at_ (spI at_ over lz)).map insC) :: H) := by
 have hlt := lt_get hat;have hr1 : (code.map insC)[at_]? = some [.int .i64 2, .int .i64 x, .int .i64 y, .sl []] := ins_get hat;refine Ev.mkE rfl fi107 rfl rfl rfl ?_;dsimp only [u3,u4,List.length,Nat.reduceSub,Nat.reduceAdd,w1,w2];have hH0 := hH;have hH := hH.enterRw;have hS2 : (enterSt .rw s0).bs = s0.bs := rfl;generalize enterSt .rw s0 = S2 at *;refine qq ?_;refine qj fun K hK => ?_;refine qm ?_;refine qg ?_;refine qp (o := 0) ?_;refine ql hH at0 ?_;refine qm ?_;refine qm ?_;refine qg ?_;refine qp (o := 0) ?_;refine ql hH at0 ?_;refine qm ?_;refine qm ?_;refine EvO.addZ (z := ((at_ + 1 : Nat) : Int)) rfl (ev rfl) (ev rfl) (by (try simp only [List.length_reverse,List.length_cons,List.length_nil,List.length_append,List.length_map,List.length_set]); rw [wrap_i64 (by omega) (by omega)] <;> omega) (put_T rfl _) ?_;refine qm ?_;refine EvO.didx (s := 4) hH rfl (ev rfl) (ev rfl) (by exact at1) rfl rfl (by exact lt_get (by assumption)) (fun _ => (put_T rfl _)) (fun p21 hp21 => ?_);refine EvO.ofieldN (fo := 1) (m := 0) (o2 := 1) rfl (ev rfl) (by assumption) rfl rfl rfl (fun _ => (put_T rfl _)) (fun p22 hp22 => ?_);refine EvO.dstore hH rfl (ev rfl) (ev rfl) (by assumption) rfl rfl (by exact at1) (by assumption) (Nat.le_of_ble_eq_true rfl) (by intro d hd; simp only [List.mem_cons,List.not_mem_nil,or_false] at hd; subst hd; rfl) (by exact .inr rfl) (fun st hH => ?_);dsimp only [u2,u1,u3,u4,setMany,u5,u6,D.cells,Nat.reduceAdd,insC] at hH;refine EvO.didx (s := 4) hH rfl (ev rfl) (ev rfl) (by exact at1) rfl rfl (by simp only [List.length_map,List.length_set] <;> omega) (fun _ => (put_T rfl _)) (fun p23 hp23 => ?_);refine EvO.ofieldN (fo := 2) (m := 0) (o2 := 2) rfl (ev rfl) (by assumption) rfl rfl rfl (fun _ => (put_T rfl _)) (fun p24 hp24 => ?_);refine EvO.dstore hH rfl (ev rfl) (ev rfl) (by assumption) rfl rfl (by exact at1) (List.getElem?_set_self (by simp only [List.length_set,List.length_map]; omega)) (Nat.le_of_ble_eq_true rfl) (by intro d hd; simp only [List.mem_cons,List.not_mem_nil,or_false] at hd; subst hd; rfl) (by exact .inr rfl) (fun st hH => ?_);dsimp only [u1,u2,setMany] at hH;rw [List.set_set] at hH;refine qe hK ?_;refine qq ?_;refine qj fun K hK => ?_;refine qm ?_;refine qe hK ?_
 cases lz with
 | false =>
  refine qC ?_;refine EvC.skip ?_;refine ⟨fun i h => (by cases h),_,_,_,rfl,leaveD_rw rfl,?_⟩;exact ⟨rfl,by rw [List.map_set]; exact hH0.leaveRwD hS2 hH⟩
 | true =>
  refine qB ?_;refine qj fun K hK => ?_;refine qm ?_;refine qg ?_;refine qp (o := 0) ?_;refine ql hH at0 ?_;refine qm ?_;refine qm ?_;refine qg ?_;refine qp (o := 0) ?_;refine ql hH at0 ?_;refine qm ?_;refine qm ?_;refine qm ?_;refine EvO.addZ (z := ((at_ + 1 : Nat) : Int)) rfl (ev rfl) (ev rfl) (by (try simp only [List.length_reverse,List.length_cons,List.length_nil,List.length_append,List.length_map,List.length_set]); rw [wrap_i64 (by omega) (by omega)] <;> omega) (put_T rfl _) ?_;refine EvO.didx (s := 4) hH rfl (ev rfl) (ev rfl) (by exact at1) rfl rfl (by simp only [List.length_map,List.length_set] <;> omega) (fun _ => (put_T rfl _)) (fun p39 hp39 => ?_);refine EvO.ofieldN (fo := 1) (m := 0) (o2 := 1) rfl (ev rfl) (by assumption) rfl rfl rfl (fun _ => (put_T rfl _)) (fun p40 hp40 => ?_);refine EvO.dstore hH rfl (ev rfl) (ev rfl) (by assumption) rfl rfl (by exact at1) (List.getElem?_set_self (by simp only [List.length_set,List.length_map]; omega)) (Nat.le_of_ble_eq_true rfl) (by intro d hd; simp only [List.mem_cons,List.not_mem_nil,or_false] at hd; subst hd; rfl) (by exact .inr rfl) (fun st hH => ?_);dsimp only [u1,u2,setMany] at hH;rw [List.set_set] at hH;refine EvO.didx (s := 4) hH rfl (ev rfl) (ev rfl) (by exact at1) rfl rfl (by simp only [List.length_map,List.length_set] <;> omega) (fun _ => (put_T rfl _)) (fun p41 hp41 => ?_);refine EvO.ofieldN (fo := 2) (m := 0) (o2 := 2) rfl (ev rfl) (by assumption) rfl rfl rfl (fun _ => (put_T rfl _)) (fun p42 hp42 => ?_);refine EvO.dstore hH rfl (ev rfl) (ev rfl) (by assumption) rfl rfl (by exact at1) (List.getElem?_set_self (by simp only [List.length_set,List.length_map]; omega)) (Nat.le_of_ble_eq_true rfl) (by intro d hd; simp only [List.mem_cons,List.not_mem_nil,or_false] at hd; subst hd; rfl) (by exact .inr rfl) (fun st hH => ?_);dsimp only [u1,u2,setMany] at hH;rw [List.set_set] at hH;refine qe hK ?_;refine ⟨fun i h => (by cases h),_,_,_,rfl,leaveD_rw rfl,?_⟩;exact ⟨rfl,by rw [List.map_set]; exact hH0.leaveRwD hS2 hH⟩
def CoSpec (t : Tr) : Prop := ∀ {N k : Nat} {S s0 : St} {H : List Ent} {full : List PIns},S.flr <= N -> CoH N S s0 k H full ->
 ∃ r st',Ev pv 56 [.ptr k 0 0, .agg (tC t)] s0 r st' /\ r = .tup [] /\ CoH N S st' k H (full ++ codeT t full.length)
theorem trs_ok {l : List Tr} : (trsOf l).ok ↔ ∀ k ∈ l,k.ok := by
 induction l with
 | nil => simp [trsOf,Trs.ok]
 | cons t l ih => simp only [trsOf,Trs.ok,ih,List.mem_cons,forall_eq_or_imp]
theorem trsOf_len : ∀ l : List Tr,(trsOf l).len = l.length
 | [] => rfl
 | t :: l => by simp only [trsOf,Trs.len,List.length_cons,trsOf_len l]
theorem trsOf_sz (l : List Tr) : (trsOf l).sz = szL l := by rw [trs_sz,trs_l]
theorem drop_cons {α : Type} {l : List α} {i : Nat} {t : α} (h : l[i]? = some t) : l.drop i = t :: l.drop (i + 1) := by
 obtain ⟨h3,h4⟩ := List.getElem?_eq_some_iff.1 h;rw [List.drop_eq_getElem_cons h3,h4]
def ixF_Ge (fr : Go.V.Fr) (k : Nat) : Go.V.D := Go.V.nth .junk fr.loc k
theorem kid_sl {l : List Tr} (h : ∀ t ∈ l,t.fa NdR) : SlD (kidD l) 8 (l.map tC) := by
 rw [kid_eq]; exact SlD.frozen (t_len l) (t_plain h)
theorem caltL {l : List Tr} (h : ∀ k ∈ l,k.ok) (jp : PIns) (b : Nat) : (altT jp (trsOf l) b).length = szL l + 2 * (l.length - 1) := by
 rw [altT_len jp _ b (trs_ok.2 h),trsOf_sz,trsOf_len]
theorem szL_cons (t : Tr) (l : List Tr) : szL (t :: l) = t.sz + szL l := by simp [szL]
theorem calt_ev {ks : List Tr} (ih : ∀ t ∈ ks,CoSpec t) (hok : ∀ t ∈ ks,t.ok) (hfa : ∀ t ∈ ks,t.fa NdR) (hk2 : 2 <= ks.length) (hkn : ks.length <= 1048576) {N k : Nat} {S s0 : St} {H : List Ent} {full : List PIns} (hF : S.flr <= N) (hM : CoH N S s0 k H full) :
  ∃ r st',Ev pv 81 [.ptr k 0 0,kidD ks] s0 r st' /\ r = .tup [] /\ CoH N S st' k H (full ++ altT (jpI (full.length + (szL ks + 2 * (ks.length - 1)))) (trsOf ks) full.length) := by
 obtain ⟨cd,dk,code,big,hH,hO⟩ := hM;have hko := trs_ok.2 hok;have hE := caltL hok (jpI 0) full.length;have hE2 := caltL hok (jpI (full.length + (szL ks + 2 * (ks.length - 1)))) full.length;refine Ev.mkE rfl fi81 rfl rfl rfl ?_;dsimp only [u3,u4,List.length,Nat.reduceSub,Nat.reduceAdd,w1,w2];change EvC _ _ _ _ s0 _;have hc := (kid_sl hfa).arg N S;refine qq ?_;refine qj fun K hK => ?_;refine qm ?_;refine qe hK ?_;have hH : Has N S s0 (.box k (.mem 0 false [cd, .bool big]) :: .deep dk cd 4 (code.map insC) :: .lst .nul 1 (([] : List Nat).map natC) :: H) := Has.rot [_] [_,_] (hH.nulE 1);refine qq ?_;refine qq ?_;refine qj fun K hK => ?_;refine qm ?_;refine qe hK ?_;refine EvC.merge (fun fr st => ∃ (cd jd : D) (dk : Nat -> Prop) (code3 : List PIns) (big3 : Bool) (js : List Nat) (tmp : List (Nat × D)),fr = ⟨8, [.ptr k 0 0,ixF_Ge fr 1,ixF_Ge fr 2,ixF_Ge fr 3,jd,ixF_Ge fr 5,ixF_Ge fr 6,ixF_Ge fr 7],tmp⟩ /\ Has N S st (.box k (.mem 0 false [cd, .bool big3]) :: .deep dk cd 4 (code3.map insC) :: .lst jd 1 (js.map natC) :: H) /\ ((big3 = false /\ code3 = full ++ altT (jpI 0) (trsOf ks) full.length /\ js = altJ (trsOf ks) full.length /\ code3.length <= 400) \/ (big3 = true /\ code3.length = 400 /\ 400 < full.length + (szL ks + 2 * (ks.length - 1)))) /\ (js.length <= ks.length)) ?_ ?_
 ·have hO2 : (big = false /\ code.length <= 400 /\ code ++ altT (jpI 0) (trsOf (ks.drop 0)) code.length = full ++ altT (jpI 0) (trsOf ks) full.length /\ ([] : List Nat) ++ altJ (trsOf (ks.drop 0)) code.length = altJ (trsOf ks) full.length) \/ (big = true /\ code.length = 400 /\ 400 < full.length + (szL ks + 2 * (ks.length - 1))) := by
   rcases hO with ⟨h1,h2,h3⟩ | ⟨h1,h2,h3⟩
   ·exact .inl ⟨h1,by rw [h2]; exact h3,by rw [h2]; rfl,by rw [h2]; rfl⟩
   ·exact .inr ⟨h1,h2,by omega⟩
  refine EvC.block ?_;refine EvC.loop (fun mm fr st => ∃ (i : Nat) (cd jd : D) (dk : Nat -> Prop) (code2 : List PIns) (big2 : Bool) (js : List Nat),fr.clean = ⟨8, [.ptr k 0 0,kidD ks,ixF_Ge fr 2,ixF_Ge fr 3,jd, .int .i64 (i : Nat),ixF_Ge fr 6,ixF_Ge fr 7], []⟩ /\ Has N S st (.box k (.mem 0 false [cd, .bool big2]) :: .deep dk cd 4 (code2.map insC) :: .lst jd 1 (js.map natC) :: H) /\ (i + mm = ks.length) /\ (js.length <= i) /\ ((big2 = false /\ code2.length <= 400 /\ code2 ++ altT (jpI 0) (trsOf (ks.drop i)) code2.length = full ++ altT (jpI 0) (trsOf ks) full.length /\ js ++ altJ (trsOf (ks.drop i)) code2.length = altJ (trsOf ks) full.length) \/ (big2 = true /\ code2.length = 400 /\ 400 < full.length + (szL ks + 2 * (ks.length - 1))))) (ks.length) ?_ ?_
  ·exact ⟨0,cd, .nul,dk,code,big, [],rfl,hH,by omega,by simp,hO2⟩
  rintro mm fr st ⟨i,cd,jd,dk,code2,big2,js,hfr,hH,hi,hjl,hO2⟩;rw [hfr];clear hfr;generalize ixF_Ge fr = ee;clear fr;refine qq ?_;refine qq ?_;refine EvC.cutT 18 (.bool (decide ((i : Int) < (ks.length : Nat)) && !big2)) [] ?_ (fun ff tmp htmp => ?_)
  ·refine qm ?_;refine qm ?_;refine qn ?_;simp only [List.length_map];refine qg ?_;refine qm ?_;refine EvO.two 12 rfl (fun hg4 => ?_) (fun hg4 => ?_)
   ·refine qm ?_ (hg := wi hg4);refine qg ?_ (hg := wi hg4);refine qp (o := 1) ?_ (hg := wi hg4);refine ql hH at0 ?_ (hg := wi hg4);refine qg ?_ (hg := wi hg4);refine qt hg4 ?_;refine EvO.nil (leafT ?_ ?_)
    ·dsimp only [setW,List.foldl,nth,u2,u1]
     all_goals (first | rfl | simp)
    ·dsimp only [Fr.putO,Fr.put,Fr.clean,Fr.ev,Fr.get,nth,V.look,u1,u2,v1,v2,v3,v4,v5,v6,v7,List.length,u3,u4,Nat.reduceSub,Nat.reduceAdd,List.map]
     all_goals (simp_all; done)
   ·refine qs ?_ (hg := wn hg4);refine qs ?_ (hg := wn hg4);refine qs ?_ (hg := wn hg4);refine qs ?_ (hg := wn hg4);refine qs ?_ (hg := wn hg4);refine qu hg4 ?_;refine EvO.nil (leafT ?_ ?_)
    ·dsimp only [setW,List.foldl,nth,u2,u1]
     all_goals (first | rfl | simp)
    ·dsimp only [Fr.putO,Fr.put,Fr.clean,Fr.ev,Fr.get,nth,V.look,u1,u2,v1,v2,v3,v4,v5,v6,v7,List.length,u3,u4,Nat.reduceSub,Nat.reduceAdd,List.map]
     all_goals (simp_all; omega)
  dsimp only [setW,List.foldl,nth,u2,u1];dsimp only [Fr.putO,Fr.put,Fr.clean,Fr.ev,Fr.get,nth,V.look,u1,u2,v1,v2,v3,v4,v5,v6,v7,List.length,u3,u4,Nat.reduceSub,Nat.reduceAdd,List.map]
  by_cases hgo : i < ks.length /\ big2 = false
  ·obtain ⟨hlt,hbf⟩ := hgo;have hcc : (decide ((i : Int) < (ks.length : Nat)) && !big2) = true := by rw [hbf]; simp; omega
   rw [hcc] at htmp
   obtain ⟨hl2,hcode,hjs⟩ : code2.length <= 400 /\ code2 ++ altT (jpI 0) (trsOf (ks.drop i)) code2.length = full ++ altT (jpI 0) (trsOf ks) full.length /\ js ++ altJ (trsOf (ks.drop i)) code2.length = altJ (trsOf ks) full.length := by
    rcases hO2 with h | h
    ·exact h.2
    ·rw [hbf] at h; cases h.1
   obtain ⟨p,hp⟩ : ∃ p,ks[i]? = some p := ⟨ks[i]'hlt,List.getElem?_eq_getElem _⟩
   have hpm := List.mem_of_getElem? hp;have hr1 := t_get hp;have hpo := hok p hpm;have hdl : (ks.drop i).length = ks.length - i := List.length_drop;have hlen := congrArg List.length hcode;rw [List.length_append,List.length_append,hE,caltL (fun k hk => hok k (List.mem_of_mem_drop hk)),hdl] at hlen;have hsz : szL (ks.drop i) = p.sz + szL (ks.drop (i + 1)) := by rw [drop_cons hp,szL_cons]
   rw [drop_cons hp] at hcode hjs;simp only [trsOf,altT,altJ,trsOf_len,List.length_drop] at hcode hjs;refine qB ?_;refine EvC.skip ?_;refine qq ?_;refine EvC.block ?_;refine qq ?_;refine qq ?_;refine qj fun K hK => ?_;refine qm ?_;refine qm ?_;refine qn ?_;simp only [List.length_map];refine EvO.subZ (z := ((ks.length - 1 : Nat) : Int)) rfl (ev rfl) (ev rfl) (by (try simp only [List.length_reverse,List.length_cons,List.length_nil,List.length_append,List.length_map,List.length_set]); rw [wrap_i64 (by omega) (by omega)] <;> omega) (put_T rfl _) ?_;refine qg ?_;refine qe hK ?_
   by_cases hlast : i + 1 = ks.length
   ·have hcc2 : (((i : Nat) : Int) == ((ks.length - 1 : Nat) : Int)) = true := by rw [beq_iff_eq]; omega
    rw [if_pos (by omega)] at hcode hjs;refine qD rfl (by rw [hcc2]) ?_;refine qq ?_;refine qj fun K hK => ?_;refine qm ?_;refine qm ?_;refine qm ?_;refine qr fun p29 hp29 => ?_;refine EvO.rloadS rfl (ev rfl) (by assumption) rfl (put_T rfl _) ?_;obtain ⟨_,st,hev,rfl,cd,dk,code3,big3,hH,hO3⟩ := ih p hpm hF ⟨cd,dk,code2,big2,hH, .inl ⟨hbf,rfl,hl2⟩⟩;refine qv hev ?_;refine qe hK ?_
    have hO4 : (big3 = false /\ code3 = full ++ altT (jpI 0) (trsOf ks) full.length /\ js = altJ (trsOf ks) full.length /\ code3.length <= 400) \/ (big3 = true /\ code3.length = 400 /\ 400 < full.length + (szL ks + 2 * (ks.length - 1))) := by
     rcases hO3 with ⟨h1,h2,h3⟩ | ⟨h1,h2,h3⟩
     ·exact .inl ⟨h1,by rw [h2]; exact hcode,by rw [List.append_nil] at hjs; exact hjs,by rw [h2]; exact h3⟩
     ·rw [hcode,List.length_append,hE] at h3;exact .inr ⟨h1,h2,h3⟩
    refine EvC.exit ?_;exact ⟨cd,jd,dk,code3,big3,js,_,rfl,hH,hO4,by omega⟩
   ·rw [if_neg (by omega)] at hcode hjs;have hcc2 : (((i : Nat) : Int) == ((ks.length - 1 : Nat) : Int)) = false := by rw [beq_eq_false_iff_ne]; omega
    refine qE rfl (by rw [hcc2]) ?_;refine EvC.skip ?_;refine qq ?_;refine qj fun K hK => ?_;refine qm ?_;refine EvO.go (d := .agg [.int .i64 2, .int .i64 0, .int .i64 0, .nul]) (st1 := _) rfl rfl rfl (put_T rfl _) ?_;obtain ⟨_,st,hev,rfl,cd,dk,code3,big3,hH,hO3⟩ := cput_ev (rs := []) hF (.inl ⟨rfl,rfl⟩) ⟨cd,dk,code2,big2,hH, .inl ⟨hbf,rfl,hl2⟩⟩;refine qv hev ?_;refine qm ?_;refine qe hK ?_;have hl3 : (code2 ++ [mkI 2 0 0 []]).length = code2.length + 1 := by simp
    refine qq ?_;refine qj fun K hK => ?_;refine qm ?_;refine qm ?_;refine qm ?_;refine qr fun p38 hp38 => ?_;refine EvO.rloadS rfl (ev rfl) (by assumption) rfl (put_T rfl _) ?_;obtain ⟨_,st,hev,rfl,cd,dk,code4,big4,hH,hO4⟩ := ih p hpm hF ⟨cd,dk,code3,big3,hH,hO3⟩;refine qv hev ?_;refine qe hK ?_;rw [hl3] at hO4;have hl4 : (code2 ++ [mkI 2 0 0 []] ++ codeT p (code2.length + 1)).length = code2.length + 1 + p.sz := by rw [List.length_append,hl3,codeT_len p _ hpo]
    refine qq ?_;refine qj fun K hK => ?_;refine qm ?_;refine qm ?_;refine EvO.go (d := .agg [.int .i64 3, .int .i64 0, .int .i64 0, .nul]) (st1 := _) rfl rfl rfl (put_T rfl _) ?_;obtain ⟨_,st,hev,rfl,cd,dk,code5,big5,hH,hO5⟩ := cput_ev (rs := []) hF (.inl ⟨rfl,rfl⟩) ⟨cd,dk,code4,big4,hH,hO4⟩;refine qv hev ?_;refine qh (s := 1) (vs := [_]) hH fun k45 st hk45 hH => ?_;refine EvO.happend (s := 1) hH rfl (ev rfl) (ev rfl) (by exact at3) (by exact hH.rows (by exact at0)) rfl rfl rfl rfl rfl rfl rfl ⟨(Nat.le_of_ble_eq_true rfl),(Nat.le_of_ble_eq_true rfl)⟩ (fun _ => (put_T rfl _)) (by simp only [List.length_append,List.length_cons,List.length_nil,List.length_map] <;> omega) (by exact .inl hF) (fun x46 st hH => ?_);dsimp only [u2,u1,u3,u4,setMany,u5,u6,D.cells,Nat.reduceAdd,insC,natC,tC,trC,nodC] at hH;refine qm ?_;refine qe hK ?_;have hH : Has N S st (.box k (.mem 0 false [cd, .bool big5]) :: .deep dk cd 4 (code5.map insC) :: .lst x46 1 _ :: H) := hH.drop 1;have hl5 : (code2 ++ [mkI 2 0 0 []] ++ codeT p (code2.length + 1) ++ [mkI 3 0 0 []]).length = code2.length + p.sz + 2 := by rw [List.length_append,hl4]; simp only [List.length_cons,List.length_nil]; omega
    refine qq ?_;refine qj fun K hK => ?_;refine qm ?_;refine qg ?_;refine qp (o := 1) ?_;refine ql hH at0 ?_;refine qg ?_;refine qe hK ?_
    by_cases hb5 : big5 = false
    ·obtain ⟨h52,h53⟩ : code5 = code2 ++ [mkI 2 0 0 []] ++ codeT p (code2.length + 1) ++ [mkI 3 0 0 []] /\ (code2 ++ [mkI 2 0 0 []] ++ codeT p (code2.length + 1) ++ [mkI 3 0 0 []]).length <= 400 := by
      rcases hO5 with h | h
      ·exact h.2
      ·rw [hb5] at h; cases h.1
     rw [hl5] at h53;rw [hl4,if_pos (by omega)] at hH;rw [if_pos (by omega)];rw [h52] at hH
     have hat3 : (code2 ++ [mkI 2 0 0 []] ++ codeT p (code2.length + 1) ++ [mkI 3 0 0 []])[code2.length]? = some (mkI 2 0 0 []) := by
      rw [List.append_assoc,List.append_assoc]; exact get_mid _ _ _
     have hst3 : (code2 ++ [mkI 2 0 0 []] ++ codeT p (code2.length + 1) ++ [mkI 3 0 0 []]).set code2.length (spI code2.length (code2.length + 1 + p.sz + 1) false) = code2 ++ (spI code2.length (code2.length + 1 + p.sz + 1) false :: (codeT p (code2.length + 1) ++ [jpI 0])) := by
      rw [List.append_assoc,List.append_assoc]; exact set_mid _ _ _ _
     have hcl4 : (code2 ++ (spI code2.length (code2.length + 1 + p.sz + 1) false :: (codeT p (code2.length + 1) ++ [jpI 0]))).length = code2.length + p.sz + 2 := by rw [<- hst3,List.length_set,hl5]
     generalize code2 ++ [mkI 2 0 0 []] ++ codeT p (code2.length + 1) ++ [mkI 3 0 0 []] = c3 at *;have hr2 : (c3.map insC)[code2.length]? = some [.int .i64 2, .int .i64 0, .int .i64 0, .sl []] := ins_get hat3;have hlt3 := lt_get hat3;refine qD rfl (by simp [hb5]) ?_;refine qj fun K hK => ?_;refine qm ?_;refine qg ?_;refine qp (o := 0) ?_;refine ql hH at0 ?_;refine qm ?_;refine qm ?_;refine qg ?_;refine qp (o := 0) ?_;refine ql hH at0 ?_;refine qm ?_;refine qm ?_;refine EvO.addZ (z := ((code2.length + 1 : Nat) : Int)) rfl (ev rfl) (ev rfl) (by (try simp only [List.length_reverse,List.length_cons,List.length_nil,List.length_append,List.length_map,List.length_set]); rw [wrap_i64 (by omega) (by omega)] <;> omega) (put_T rfl _) ?_;refine qm ?_;refine qg ?_;refine qp (o := 0) ?_;refine ql hH at0 ?_;refine EvO.dlen hH rfl (ev rfl) (by exact at1) rfl (put_T rfl _) ?_;simp only [List.length_map];refine EvO.didx (s := 4) hH rfl (ev rfl) (ev rfl) (by exact at1) rfl rfl (by exact lt_get (by assumption)) (fun _ => (put_T rfl _)) (fun p69 hp69 => ?_);refine EvO.ofieldN (fo := 1) (m := 0) (o2 := 1) rfl (ev rfl) (by assumption) rfl rfl rfl (fun _ => (put_T rfl _)) (fun p70 hp70 => ?_);refine EvO.dstore hH rfl (ev rfl) (ev rfl) (by assumption) rfl rfl (by exact at1) (by assumption) (Nat.le_of_ble_eq_true rfl) (by intro d hd; simp only [List.mem_cons,List.not_mem_nil,or_false] at hd; subst hd; rfl) (by exact .inl hF) (fun st hH => ?_);dsimp only [u2,u1,u3,u4,setMany,u5,u6,D.cells,Nat.reduceAdd,insC,natC,tC,trC,nodC] at hH;refine EvO.didx (s := 4) hH rfl (ev rfl) (ev rfl) (by exact at1) rfl rfl (by simp only [List.length_map,List.length_set] <;> omega) (fun _ => (put_T rfl _)) (fun p71 hp71 => ?_);refine EvO.ofieldN (fo := 2) (m := 0) (o2 := 2) rfl (ev rfl) (by assumption) rfl rfl rfl (fun _ => (put_T rfl _)) (fun p72 hp72 => ?_);refine EvO.dstore hH rfl (ev rfl) (ev rfl) (by assumption) rfl rfl (by exact at1) (List.getElem?_set_self (by simp only [List.length_set,List.length_map]; omega)) (Nat.le_of_ble_eq_true rfl) (by intro d hd; simp only [List.mem_cons,List.not_mem_nil,or_false] at hd; subst hd; rfl) (by exact .inl hF) (fun st hH => ?_);dsimp only [u1,u2,setMany] at hH;rw [List.set_set] at hH;refine qe hK ?_;have hse : code2.length + p.sz + 2 = code2.length + 1 + p.sz + 1 := by omega
     have hH : Has N S st (.box k (.mem 0 false [cd, .bool big5]) :: .deep dk cd 4 ((c3.set code2.length (spI code2.length (code2.length + 1 + p.sz + 1) false)).map insC) :: .lst x46 1 ((js ++ [code2.length + 1 + p.sz]).map natC) :: H) := by
      rw [List.map_set,List.map_append]; rw [hl5,hse] at hH; exact hH
     rw [hst3] at hH;refine qj fun K hK => ?_;refine qm ?_;refine qA ?_;refine qm ?_;refine qe hK ?_;exact ⟨mm - 1,by omega,⟨i + 1,cd,x46,dk,code2 ++ (spI code2.length (code2.length + 1 + p.sz + 1) false :: (codeT p (code2.length + 1) ++ [jpI 0])),big5,js ++ [code2.length + 1 + p.sz],rfl,hH,by omega,(by rw [List.length_append]; simp only [List.length_cons,List.length_nil]; omega), .inl ⟨hb5,by rw [hcl4]; omega,by rw [hcl4, <- hcode]; simp only [List.append_assoc,List.cons_append,List.nil_append],by rw [hcl4, <- hjs]; simp only [List.append_assoc,List.cons_append,List.nil_append]⟩⟩⟩
    ·obtain ⟨h51,h52,h53⟩ : big5 = true /\ code5.length = 400 /\ 400 < (code2 ++ [mkI 2 0 0 []] ++ codeT p (code2.length + 1) ++ [mkI 3 0 0 []]).length := by
      rcases hO5 with h | h
      ·exact absurd h.1 hb5
      ·exact h
     rw [hl5] at h53;refine qE rfl (by simp [h51]) ?_;refine EvC.skip ?_;refine qj fun K hK => ?_;refine qm ?_;refine qA ?_;refine qm ?_;refine qe hK ?_;exact ⟨mm - 1,by omega,⟨i + 1,cd,x46,dk,code5,big5,js ++ [if (code2 ++ [mkI 2 0 0 []] ++ codeT p (code2.length + 1)).length < 400 then (code2 ++ [mkI 2 0 0 []] ++ codeT p (code2.length + 1)).length else 0],rfl,(by rw [List.map_append]; exact hH),by omega,(by rw [List.length_append]; simp only [List.length_cons,List.length_nil]; omega), .inr ⟨h51,h52,by omega⟩⟩⟩
  ·have hcc : (decide ((i : Int) < (ks.length : Nat)) && !big2) = false := by
    by_cases h : i < ks.length
    ·have : big2 = true := by cases big2; exact absurd ⟨h,rfl⟩ hgo; rfl
     rw [this]; simp
    ·rw [decide_eq_false (by omega)]; rfl
   rw [hcc] at htmp
   have hO4 : (big2 = false /\ code2 = full ++ altT (jpI 0) (trsOf ks) full.length /\ js = altJ (trsOf ks) full.length /\ code2.length <= 400) \/ (big2 = true /\ code2.length = 400 /\ 400 < full.length + (szL ks + 2 * (ks.length - 1))) := by
    rcases hO2 with ⟨h1,h2,h3,h4⟩ | h
    ·have he : ks.drop i = [] := List.drop_eq_nil_of_le (by
      by_cases h : i < ks.length
      ·exact absurd ⟨h,h1⟩ hgo
      ·omega)
     rw [he] at h3 h4;simp only [trsOf,altT,altJ,List.append_nil] at h3 h4;exact .inl ⟨h1,h3,h4,h2⟩
    ·exact .inr h
   refine qC ?_;refine EvC.exit ?_;exact ⟨cd,jd,dk,code2,big2,js,_,rfl,hH,hO4,by omega⟩
 ·rintro fr st ⟨cd,jd,dk,code3,big3,js,tmp,hfr,hH,hO3,hjl⟩;rw [hfr];clear hfr;generalize ixF_Ge fr = ee;clear fr;refine qq ?_;refine qj fun K hK => ?_;refine qm ?_;refine qe hK ?_;obtain ⟨hp1,hp2⟩ := alt_patch (jp := jpI (full.length + (szL ks + 2 * (ks.length - 1)))) (i0 := jpI 0) (trsOf ks) full.length full [] hko rfl;simp only [List.append_nil] at hp1 hp2;have hC0 : (full ++ altT (jpI 0) (trsOf ks) full.length).length = full.length + (szL ks + 2 * (ks.length - 1)) := by rw [List.length_append,hE]
  have hfin : (full ++ altT (jpI (full.length + (szL ks + 2 * (ks.length - 1)))) (trsOf ks) full.length).length = full.length + (szL ks + 2 * (ks.length - 1)) := by rw [List.length_append,hE2]
  generalize full ++ altT (jpI 0) (trsOf ks) full.length = C0 at *;generalize full ++ altT (jpI (full.length + (szL ks + 2 * (ks.length - 1)))) (trsOf ks) full.length = C1 at *;generalize full.length + (szL ks + 2 * (ks.length - 1)) = e at *
  have hC3 : (big3 = false /\ setAll (fun _ => jpI e) code3 (js.drop 0) = C1 /\ (∀ p ∈ js, ∃ v : Int,code3[p]? = some (mkI 3 v 0 [])) /\ code3.length = e /\ e <= 400) \/ (big3 = true /\ code3.length = 400 /\ 400 < e) := by
   rcases hO3 with ⟨h1,h2,h3,h4⟩ | h
   ·exact .inl ⟨h1,by rw [h2,h3]; exact hp1,fun p hp => ⟨_,by rw [h2]; exact hp2 p (h3 ▸ hp)⟩,by rw [h2]; exact hC0,by rw [h2,hC0] at h4; exact h4⟩
   ·exact .inr h
  refine EvC.block ?_;refine EvC.loop (fun mm fr st => ∃ (q : Nat) (C : List PIns),fr.clean = ⟨8, [.ptr k 0 0,ixF_Ge fr 1,ixF_Ge fr 2,ixF_Ge fr 3,jd,ixF_Ge fr 5,ixF_Ge fr 6, .int .i64 (q : Nat)], []⟩ /\ Has N S st (.box k (.mem 0 false [cd, .bool big3]) :: .deep dk cd 4 (C.map insC) :: .lst jd 1 (js.map natC) :: H) /\ (q + mm = js.length) /\ ((big3 = false /\ setAll (fun _ => jpI e) C (js.drop q) = C1 /\ (∀ p ∈ js, ∃ v : Int,C[p]? = some (mkI 3 v 0 [])) /\ C.length = e /\ e <= 400) \/ (big3 = true /\ C.length = 400 /\ 400 < e))) (js.length) ?_ ?_
  ·exact ⟨0,code3,rfl,hH,by omega,hC3⟩
  rintro mm fr st ⟨q,C,hfr,hH,hq,hC⟩;rw [hfr];clear hfr;generalize ixF_Ge fr = ee;clear fr;refine qq ?_;refine qq ?_;refine EvC.cutT 83 (.bool (decide ((q : Int) < (js.length : Nat)) && !big3)) [] ?_ (fun ff tmp htmp => ?_)
  ·refine qm ?_;refine qm ?_;refine qn ?_ (hR := hH.rows at2);simp only [List.length_map];refine qg ?_;refine qm ?_;refine EvO.two 77 rfl (fun hg4 => ?_) (fun hg4 => ?_)
   ·refine qm ?_ (hg := wi hg4);refine qg ?_ (hg := wi hg4);refine qp (o := 1) ?_ (hg := wi hg4);refine ql hH at0 ?_ (hg := wi hg4);refine qg ?_ (hg := wi hg4);refine qt hg4 ?_;refine EvO.nil (leafT ?_ ?_)
    ·dsimp only [setW,List.foldl,nth,u2,u1]
     all_goals (first | rfl | simp)
    ·dsimp only [Fr.putO,Fr.put,Fr.clean,Fr.ev,Fr.get,nth,V.look,u1,u2,v1,v2,v3,v4,v5,v6,v7,List.length,u3,u4,Nat.reduceSub,Nat.reduceAdd,List.map]
     all_goals (simp_all; done)
   ·refine qs ?_ (hg := wn hg4);refine qs ?_ (hg := wn hg4);refine qs ?_ (hg := wn hg4);refine qs ?_ (hg := wn hg4);refine qs ?_ (hg := wn hg4);refine qu hg4 ?_;refine EvO.nil (leafT ?_ ?_)
    ·dsimp only [setW,List.foldl,nth,u2,u1]
     all_goals (first | rfl | simp)
    ·dsimp only [Fr.putO,Fr.put,Fr.clean,Fr.ev,Fr.get,nth,V.look,u1,u2,v1,v2,v3,v4,v5,v6,v7,List.length,u3,u4,Nat.reduceSub,Nat.reduceAdd,List.map]
     all_goals (simp_all; omega)
  dsimp only [setW,List.foldl,nth,u2,u1];dsimp only [Fr.putO,Fr.put,Fr.clean,Fr.ev,Fr.get,nth,V.look,u1,u2,v1,v2,v3,v4,v5,v6,v7,List.length,u3,u4,Nat.reduceSub,Nat.reduceAdd,List.map]
  by_cases hgo : q < js.length /\ big3 = false
  ·obtain ⟨hql,hbf⟩ := hgo;have hcc : (decide ((q : Int) < (js.length : Nat)) && !big3) = true := by rw [hbf]; simp; omega
   rw [hcc] at htmp
   obtain ⟨hset,hall,hCl,he4⟩ : setAll (fun _ => jpI e) C (js.drop q) = C1 /\ (∀ p ∈ js, ∃ v : Int,C[p]? = some (mkI 3 v 0 [])) /\ C.length = e /\ e <= 400 := by
    rcases hC with h | h
    ·exact h.2
    ·rw [hbf] at h; cases h.1
   obtain ⟨p,hp⟩ : ∃ p,js[q]? = some p := ⟨js[q]'hql,List.getElem?_eq_getElem _⟩
   obtain ⟨v,hv⟩ := hall p (List.mem_of_getElem? hp);have hr1 := natC_get hp;have hr2 := ins_get hv;have hpl := lt_get hv;refine qB ?_;refine EvC.skip ?_;refine qq ?_;refine EvC.block ?_;refine qj fun K hK => ?_;refine qm ?_;refine qg ?_;refine qp (o := 0) ?_;refine ql hH at0 ?_;refine qm ?_;refine qm ?_;refine qi hH at2 fun p92 hp92 => ?_;refine qo hH at2 ?_;refine qm ?_;refine qg ?_;refine qp (o := 0) ?_;refine ql hH at0 ?_;refine EvO.dlen hH rfl (ev rfl) (by exact at1) rfl (put_T rfl _) ?_;simp only [List.length_map];refine EvO.didx (s := 4) hH rfl (ev rfl) (ev rfl) (by exact at1) rfl rfl (by exact lt_get (by assumption)) (fun _ => (put_T rfl _)) (fun p99 hp99 => ?_);refine EvO.ofieldN (fo := 1) (m := 0) (o2 := 1) rfl (ev rfl) (by assumption) rfl rfl rfl (fun _ => (put_T rfl _)) (fun p100 hp100 => ?_);refine EvO.dstore hH rfl (ev rfl) (ev rfl) (by assumption) rfl rfl (by exact at1) (by assumption) (Nat.le_of_ble_eq_true rfl) (by intro d hd; simp only [List.mem_cons,List.not_mem_nil,or_false] at hd; subst hd; rfl) (by exact .inl hF) (fun st hH => ?_);dsimp only [u2,u1,u3,u4,setMany,u5,u6,D.cells,Nat.reduceAdd,insC,natC,tC,trC,nodC] at hH;refine qe hK ?_;refine qj fun K hK => ?_;refine qm ?_;refine qA ?_;refine qm ?_;refine qe hK ?_;have hdr : js.drop q = p :: js.drop (q + 1) := drop_cons hp
   have hall' : ∀ p' ∈ js, ∃ v : Int,(C.set p (jpI e))[p']? = some (mkI 3 v 0 []) := by
    intro p' hp'
    by_cases hpp : p' = p
    ·subst hpp; exact ⟨_,List.getElem?_set_self hpl⟩
    ·rw [List.getElem?_set_ne (fun e => hpp e.symm)]; exact hall p' hp'
   exact ⟨mm - 1,by omega,⟨q + 1,C.set p (jpI e),rfl,(by rw [List.map_set, <- hCl]; exact hH),by omega, .inl ⟨hbf,by rw [hdr] at hset; exact hset,hall',by rw [List.length_set]; exact hCl,he4⟩⟩⟩
  ·have hcc : (decide ((q : Int) < (js.length : Nat)) && !big3) = false := by
    by_cases h : q < js.length
    ·have : big3 = true := by cases big3; exact absurd ⟨h,rfl⟩ hgo; rfl
     rw [this]; simp
    ·rw [decide_eq_false (by omega)]; rfl
   rw [hcc] at htmp;refine qC ?_;refine EvC.exit ?_;refine ⟨fun i h => (by cases h),_,_,_,rfl,rfl,?_⟩;refine ⟨rfl,cd,dk,C,big3,hH.erase 2,?_⟩
   rcases hC with ⟨h1,h2,h3,h4,h5⟩ | ⟨h1,h2,h3⟩
   ·have he : js.drop q = [] := List.drop_eq_nil_of_le (by
     by_cases h : q < js.length
     ·exact absurd ⟨h,h1⟩ hgo
     ·omega)
    rw [he] at h2;have h2 : C = C1 := h2;exact .inl ⟨h1,h2,by rw [hfin]; exact h5⟩
   ·exact .inr ⟨h1,h2,by rw [hfin]; exact h3⟩
def ixF_Gf (fr : Go.V.Fr) (k : Nat) : Go.V.D := Go.V.nth .junk fr.loc k
theorem crepeat_ev {t : Tr} {n : Nod} (ih : CoSpec t) (htok : t.ok) (hfa : t.fa NdR) (hnr : NdR n) (hop : n.op = 5) (hno : nodOk n 1) (hcnt : t.cnt <= 1048576) {N k : Nat} {S s0 : St} {H : List Ent} {full : List PIns} (hF : S.flr <= N) (hM : CoH N S s0 k H full) :
  ∃ r st',Ev pv 82 [.ptr k 0 0, .agg (nodC n), .agg (tC t)] s0 r st' /\ r = .tup [] /\ CoH N S st' k H (full ++ rptC n (codeT t) t.sz full.length) := by
 obtain ⟨cd,dk,code,big,hH,hO⟩ := hM
 have hmn : 0 <= n.mn /\ n.mn <= 30 /\ (n.mx = -1 \/ (n.mn <= n.mx /\ n.mx <= 30)) := by
  obtain ⟨_,hq⟩ := hno; omega
 have htc := fun b => codeT_len t b htok;have hq := fun st => quiet_ev t.cnt t (Nat.le_refl _) hcnt htok hfa st;have hRl := repC_len htc n.mn.toNat full.length;refine Ev.mkE rfl fi82 rfl rfl rfl ?_;dsimp only [u3,u4,List.length,Nat.reduceSub,Nat.reduceAdd,w1,w2];change EvC _ _ _ _ s0 _;refine qq ?_;refine qj fun K hK => ?_;refine qb hH fun k4 st hk4 hH => ?_;dsimp only [u2,u1,u3,u4,setMany,u5,u6,D.cells,Nat.reduceAdd,insC,natC,tC,trC,nodC] at hH;refine qb hH fun k5 st hk5 hH => ?_;dsimp only [u2,u1,u3,u4,setMany,u5,u6,D.cells,Nat.reduceAdd,insC,natC,tC,trC,nodC] at hH;refine qe hK ?_;have hH : Has N S st (.box k (.mem 0 false [cd, .bool big]) :: .deep dk cd 4 (code.map insC) :: .box k5 (.mem 0 false (tC t)) :: .box k4 (.mem 0 false (nodC n)) :: H) := Has.rot [_,_] [_,_] hH;refine qq ?_;refine qj fun K hK => ?_;refine EvO.hloadS (m := 8) (r := tC t) hH rfl (ev rfl) at2 rfl rfl rfl (put_T rfl _) ?_;refine qv ((hq _)) ?_;refine qm ?_;refine qe hK ?_;refine qq ?_;refine qq ?_;refine qj fun K hK => ?_;refine qm ?_;refine qe hK ?_;refine EvC.block ?_;refine EvC.loop (fun mm fr st => ∃ (i : Nat) (cd : D) (dk : Nat -> Prop) (code2 full2 : List PIns) (big2 : Bool),fr.clean = ⟨12, [.ptr k 0 0,ixF_Gf fr 1,ixF_Gf fr 2,ixF_Gf fr 3, .ptr k4 0 0, .ptr k5 0 0, .bool (decide (t.sz = 0)), .int .i64 (i : Nat),ixF_Gf fr 8,ixF_Gf fr 9,ixF_Gf fr 10,ixF_Gf fr 11], []⟩ /\ Has N S st (.box k (.mem 0 false [cd, .bool big2]) :: .deep dk cd 4 (code2.map insC) :: .box k5 (.mem 0 false (tC t)) :: .box k4 (.mem 0 false (nodC n)) :: H) /\ (i + mm = n.mn.toNat) /\ ((big2 = false /\ code2 = full2 /\ full2.length <= 400) \/ (big2 = true /\ code2.length = 400 /\ 400 < full2.length)) /\ (full2 ++ repC (codeT t) t.sz mm full2.length = full ++ repC (codeT t) t.sz n.mn.toNat full.length)) (n.mn.toNat) ?_ ?_
 ·exact ⟨0,cd,dk,code,full,big,rfl,hH,by omega,hO,rfl⟩
 rintro mm fr st ⟨i,cd,dk,code2,full2,big2,hfr,hH,hi,hO2,hc2⟩;rw [hfr];clear hfr;generalize ixF_Gf fr = ee;clear fr;refine qq ?_;refine qq ?_;refine EvC.cutT 28 (.bool ((decide ((i : Int) < n.mn) && !big2) && !(decide (t.sz = 0)))) [] ?_ (fun ff tmp htmp => ?_)
 ·refine qm ?_;refine qp (o := 2) ?_;refine ql hH at3 ?_;refine qg ?_;refine qm ?_;refine EvO.two 18 rfl (fun hg4 => ?_) (fun hg4 => ?_)
  ·refine qm ?_ (hg := wi hg4);refine qg ?_ (hg := wi hg4);refine qp (o := 1) ?_ (hg := wi hg4);refine ql hH at0 ?_ (hg := wi hg4);refine qg ?_ (hg := wi hg4);refine qt hg4 ?_;refine qm ?_;refine EvO.two 25 rfl (fun hg11 => ?_) (fun hg11 => ?_)
   ·refine qm ?_ (hg := wi hg11);refine qg ?_ (hg := wi hg11);refine qt hg11 ?_;refine EvO.nil (leafT ?_ ?_)
    ·dsimp only [setW,List.foldl,nth,u2,u1]
     all_goals (first | rfl | simp)
    ·dsimp only [Fr.putO,Fr.put,Fr.clean,Fr.ev,Fr.get,nth,V.look,u1,u2,v1,v2,v3,v4,v5,v6,v7,List.length,u3,u4,Nat.reduceSub,Nat.reduceAdd,List.map]
     all_goals (simp [hg4,hg11]; done)
   ·refine qs ?_ (hg := wn hg11);refine qs ?_ (hg := wn hg11);refine qu hg11 ?_;refine EvO.nil (leafT ?_ ?_)
    ·dsimp only [setW,List.foldl,nth,u2,u1]
     all_goals (first | rfl | simp)
    ·dsimp only [Fr.putO,Fr.put,Fr.clean,Fr.ev,Fr.get,nth,V.look,u1,u2,v1,v2,v3,v4,v5,v6,v7,List.length,u3,u4,Nat.reduceSub,Nat.reduceAdd,List.map]
     all_goals (simp [hg4,hg11]; done)
  ·refine qs ?_ (hg := wn hg4);refine qs ?_ (hg := wn hg4);refine qs ?_ (hg := wn hg4);refine qs ?_ (hg := wn hg4);refine qs ?_ (hg := wn hg4);refine qu hg4 ?_;refine qm ?_;refine qs ?_;refine qs ?_;refine qg ?_;refine EvO.nil (leafT ?_ ?_)
   ·dsimp only [setW,List.foldl,nth,u2,u1]
    all_goals (first | rfl | simp)
   ·dsimp only [Fr.putO,Fr.put,Fr.clean,Fr.ev,Fr.get,nth,V.look,u1,u2,v1,v2,v3,v4,v5,v6,v7,List.length,u3,u4,Nat.reduceSub,Nat.reduceAdd,List.map]
    all_goals (simp [hg4]; done)
 dsimp only [setW,List.foldl,nth,u2,u1];dsimp only [Fr.putO,Fr.put,Fr.clean,Fr.ev,Fr.get,nth,V.look,u1,u2,v1,v2,v3,v4,v5,v6,v7,List.length,u3,u4,Nat.reduceSub,Nat.reduceAdd,List.map]
 by_cases hgo : (i < n.mn.toNat /\ big2 = false) /\ t.sz ≠ 0
 ·obtain ⟨⟨hlt,hbf⟩,hz⟩ := hgo;have hcc : ((decide ((i : Int) < n.mn) && !big2) && !(decide (t.sz = 0))) = true := by rw [hbf,decide_eq_true (show (i : Int) < n.mn by omega),decide_eq_false hz]; rfl
  rw [hcc] at htmp
  obtain ⟨mm',hmm⟩ : ∃ mm',mm = mm' + 1 := ⟨mm - 1,by omega⟩
  rw [hmm,repC] at hc2;refine qB ?_;refine EvC.skip ?_;refine qq ?_;refine EvC.block ?_;refine qj fun K hK => ?_;refine qm ?_;refine EvO.hloadS (m := 8) (r := tC t) hH rfl (ev rfl) at2 rfl rfl rfl (put_T rfl _) ?_;obtain ⟨_,st,hev,rfl,cd,dk,code3,big3,hH,hO3⟩ := ih hF ⟨cd,dk,code2,big2,hH,hO2⟩;refine qv hev ?_;refine qe hK ?_;refine qj fun K hK => ?_;refine qm ?_;refine qA ?_;refine qm ?_;refine qe hK ?_;exact ⟨mm - 1,by omega,⟨i + 1,cd,dk,code3,full2 ++ codeT t full2.length,big3,rfl,hH,by omega,hO3,(by rw [List.length_append,htc,List.append_assoc,show mm - 1 = mm' by omega]; exact hc2)⟩⟩
 have hcc : ((decide ((i : Int) < n.mn) && !big2) && !(decide (t.sz = 0))) = false := by
  by_cases h : (i < n.mn.toNat /\ big2 = false)
  ·have : t.sz = 0 := Classical.byContradiction fun h2 => hgo ⟨h,h2⟩;rw [decide_eq_true this]; simp
  ·have : (decide ((i : Int) < n.mn) && !big2) = false := by
    by_cases h2 : i < n.mn.toNat
    ·have : big2 = true := by cases big2; exact absurd ⟨h2,rfl⟩ h; rfl
     rw [this]; simp
    ·rw [decide_eq_false (by omega)]; rfl
   rw [this]; rfl
 have hOR : (big2 = false /\ code2 = full ++ repC (codeT t) t.sz n.mn.toNat full.length /\ (full ++ repC (codeT t) t.sz n.mn.toNat full.length).length <= 400) \/ (big2 = true /\ code2.length = 400 /\ 400 < (full ++ repC (codeT t) t.sz n.mn.toNat full.length).length) := by
  rcases hO2 with ⟨h1,h2,h3⟩ | ⟨h1,h2,h3⟩
  ·have hR0 : repC (codeT t) t.sz mm full2.length = [] := by
    by_cases hz : t.sz = 0
    ·exact repC_zero (fun b => by rw [htc,hz]) _ _ _
    ·have : mm = 0 := by
      by_cases h : i < n.mn.toNat
      ·exact absurd ⟨⟨h,h1⟩,hz⟩ hgo
      ·omega
     rw [this]; rfl
   rw [hR0,List.append_nil] at hc2;exact .inl ⟨h1,by rw [h2,hc2],by rw [<- hc2]; exact h3⟩
  ·exact .inr ⟨h1,h2,by rw [<- hc2,List.length_append]; omega⟩
 rw [hcc] at htmp;refine qC ?_;refine EvC.exit ?_;have hcR : (full ++ repC (codeT t) t.sz n.mn.toNat full.length).length = full.length + n.mn.toNat * t.sz := by rw [List.length_append,hRl]
 unfold rptC;rw [<- hcR];have happ : ∀ X : List PIns,full ++ (repC (codeT t) t.sz n.mn.toNat full.length ++ X) = full ++ repC (codeT t) t.sz n.mn.toNat full.length ++ X := fun X => by rw [List.append_assoc]
 simp only [apply_ite (fun X : List PIns => full ++ X),happ];clear happ hcR hc2;generalize full ++ repC (codeT t) t.sz n.mn.toNat full.length = cR at *;refine qq ?_;refine qq ?_;refine qj fun K hK => ?_;refine qp (o := 3) ?_;refine ql hH at3 ?_;refine qg ?_;refine qe hK ?_
 by_cases qmx : n.mx = -1
 ·rw [if_pos qmx];refine qD rfl (by simp [qmx]) ?_;refine qq ?_;refine qj fun K hK => ?_;refine qm ?_;refine EvO.go (d := .agg [.int .i64 2, .int .i64 0, .int .i64 0, .nul]) (st1 := _) rfl rfl rfl (put_T rfl _) ?_;obtain ⟨_,st,hev,rfl,cd,dk,code3,big3,hH,hO3⟩ := cput_ev (rs := []) hF (.inl ⟨rfl,rfl⟩) ⟨cd,dk,code2,big2,hH,hOR⟩;refine qv hev ?_;refine qm ?_;refine qe hK ?_;generalize hs : (if cR.length < 400 then cR.length else 0) = s;have hcl1 : (cR ++ [mkI 2 0 0 []]).length = cR.length + 1 := by simp
  refine qq ?_;refine qj fun K hK => ?_;refine qm ?_;refine EvO.hloadS (m := 8) (r := tC t) hH rfl (ev rfl) at2 rfl rfl rfl (put_T rfl _) ?_;obtain ⟨_,st,hev,rfl,cd,dk,code4,big4,hH,hO4⟩ := ih hF ⟨cd,dk,code3,big3,hH,hO3⟩;refine qv hev ?_;refine qe hK ?_;rw [hcl1] at hO4;have hcl2 : (cR ++ [mkI 2 0 0 []] ++ codeT t (cR.length + 1)).length = cR.length + 1 + t.sz := by rw [List.length_append,hcl1,htc]
  refine qq ?_;refine qj fun K hK => ?_;refine qm ?_;refine qm ?_;refine EvO.go (d := .agg [.int .i64 3, .int .i64 (s : Nat), .int .i64 0, .nul]) (st1 := _) rfl rfl rfl (put_T rfl _) ?_;obtain ⟨_,st,hev,rfl,cd,dk,code5,big5,hH,hO5⟩ := cput_ev (rs := []) hF (.inl ⟨rfl,rfl⟩) ⟨cd,dk,code4,big4,hH,hO4⟩;refine qv hev ?_;refine qe hK ?_;have hcl3 : ∀ v : Int,(cR ++ [mkI 2 0 0 []] ++ codeT t (cR.length + 1) ++ [mkI 3 v 0 []]).length = cR.length + t.sz + 2 := fun v => by rw [List.length_append,hcl2]; simp only [List.length_cons,List.length_nil]; omega
  rw [hcl3] at hO5;have hfl : (cR ++ (spI cR.length (cR.length + t.sz + 2) n.lz :: (codeT t (cR.length + 1) ++ [jpI cR.length]))).length = cR.length + t.sz + 2 := by simp only [List.length_append,List.length_cons,List.length_nil,htc]; omega
  refine qq ?_;refine qq ?_;refine qj fun K hK => ?_;refine qm ?_;refine qg ?_;refine qp (o := 1) ?_;refine ql hH at0 ?_;refine qg ?_;refine qe hK ?_
  by_cases hb5 : big5 = false
  ·obtain ⟨h52,h53⟩ : code5 = cR ++ [mkI 2 0 0 []] ++ codeT t (cR.length + 1) ++ [mkI 3 (s : Nat) 0 []] /\ cR.length + t.sz + 2 <= 400 := by
    rcases hO5 with h | h
    ·exact h.2
    ·rw [hb5] at h; cases h.1
   have hse : s = cR.length := by rw [<- hs,if_pos (by omega)]
   rw [hse] at h52 ⊢;rw [h52] at hH
   have hat3 : (cR ++ [mkI 2 0 0 []] ++ codeT t (cR.length + 1) ++ [mkI 3 (cR.length : Nat) 0 []])[cR.length]? = some (mkI 2 0 0 []) := by
    rw [List.append_assoc,List.append_assoc]; exact get_mid _ _ _
   have hcl4 := hcl3 ((cR.length : Nat) : Int)
   have hst3 : (cR ++ [mkI 2 0 0 []] ++ codeT t (cR.length + 1) ++ [mkI 3 (cR.length : Nat) 0 []]).set cR.length (spI cR.length (cR.length + t.sz + 2) n.lz) = cR ++ (spI cR.length (cR.length + t.sz + 2) n.lz :: (codeT t (cR.length + 1) ++ [jpI cR.length])) := by
    rw [List.append_assoc,List.append_assoc]; exact set_mid _ _ _ _
   generalize cR ++ [mkI 2 0 0 []] ++ codeT t (cR.length + 1) ++ [mkI 3 (cR.length : Nat) 0 []] = c3 at *;refine qD rfl (by simp [hb5]) ?_;refine qj fun K hK => ?_;refine qm ?_;refine qm ?_;refine qm ?_;refine qg ?_;refine qp (o := 0) ?_;refine ql hH at0 ?_;refine EvO.dlen hH rfl (ev rfl) (by exact at1) rfl (put_T rfl _) ?_;simp only [List.length_map];refine qp (o := 4) ?_;refine ql hH at3 ?_;obtain ⟨_,st,hev,rfl,hH⟩ := fork_ev (at_ := cR.length) (over := c3.length) (lz := n.lz) hat3 (by omega) hH;refine qv hev ?_;refine qe hK ?_;rw [hcl4,hst3] at hH;refine EvC.ret ⟨rx,_,_,_,rfl,rfl,?_⟩;exact ⟨rfl,cd,dk,_,big5,(hH.erase 2).erase 2, .inl ⟨hb5,rfl,by rw [hfl]; exact h53⟩⟩
  ·obtain ⟨h51,h52,h53⟩ : big5 = true /\ code5.length = 400 /\ 400 < cR.length + t.sz + 2 := by
    rcases hO5 with h | h
    ·exact absurd h.1 hb5
    ·exact h
   refine qE rfl (by simp [h51]) ?_;refine EvC.skip ?_;refine EvC.ret ⟨rx,_,_,_,rfl,rfl,?_⟩;exact ⟨rfl,cd,dk,code5,big5,(hH.erase 2).erase 2, .inr ⟨h51,h52,by rw [hfl]; exact h53⟩⟩
 ·rw [if_neg qmx];refine qE rfl (by simp [qmx]) ?_;refine EvC.skip ?_;obtain ⟨a,ha⟩ : ∃ a : Nat,n.mn = (a : Int) := Int.eq_ofNat_of_zero_le hmn.1;obtain ⟨b,hb3⟩ : ∃ b : Nat,n.mx = (b : Int) := Int.eq_ofNat_of_zero_le (by omega);have hdd : n.mx.toNat - n.mn.toNat = b - a := by omega
  rw [hdd];refine qq ?_;refine qj fun K hK => ?_;refine qm ?_;refine qe hK ?_;have hH : Has N S st (.box k (.mem 0 false [cd, .bool big2]) :: .deep dk cd 4 (code2.map insC) :: .lst .nul 1 (([] : List Nat).map natC) :: .box k5 (.mem 0 false (tC t)) :: .box k4 (.mem 0 false (nodC n)) :: H) := Has.rot [_] [_,_] (hH.nulE 1);refine qq ?_;refine qq ?_;refine qj fun K hK => ?_;refine qp (o := 2) ?_;refine ql hH at4 ?_;refine qm ?_;refine qe hK ?_;have hE := optC_len htc (sp := fun _ => mkI 2 0 0 []) (z := t.sz) (b - a) cR.length;have hE2 := optC_len htc (sp := fun s => spI s (cR.length + (b - a) * (t.sz + 1)) n.lz) (z := t.sz) (b - a) cR.length
  have hO3 : (big2 = false /\ code2.length <= 400 /\ code2 ++ optC (fun _ => mkI 2 0 0 []) (codeT t) t.sz (b - a) code2.length = cR ++ optC (fun _ => mkI 2 0 0 []) (codeT t) t.sz (b - a) cR.length /\ ([] : List Nat) ++ optJ t.sz (b - a) code2.length = optJ t.sz (b - a) cR.length) \/ (big2 = true /\ code2.length = 400 /\ 400 < cR.length + (b - a) * (t.sz + 1)) := by
   rcases hOR with ⟨h1,h2,h3⟩ | ⟨h1,h2,h3⟩
   ·exact .inl ⟨h1,by rw [h2]; exact h3,by rw [h2],by rw [h2]; rfl⟩
   ·exact .inr ⟨h1,h2,by omega⟩
  refine EvC.block ?_;refine EvC.loop (fun mm fr st => ∃ (i : Nat) (z : Int) (cd jd : D) (dk : Nat -> Prop) (code3 : List PIns) (big3 : Bool) (js : List Nat),fr.clean = ⟨12, [.ptr k 0 0,ixF_Gf fr 1,ixF_Gf fr 2,ixF_Gf fr 3, .ptr k4 0 0, .ptr k5 0 0,ixF_Gf fr 6,ixF_Gf fr 7,ixF_Gf fr 8,jd, .int .i64 z,ixF_Gf fr 11], []⟩ /\ Has N S st (.box k (.mem 0 false [cd, .bool big3]) :: .deep dk cd 4 (code3.map insC) :: .lst jd 1 (js.map natC) :: .box k5 (.mem 0 false (tC t)) :: .box k4 (.mem 0 false (nodC n)) :: H) /\ (i + mm = b - a) /\ (z = n.mn + (i : Nat)) /\ (js.length <= i) /\ ((big3 = false /\ code3.length <= 400 /\ code3 ++ optC (fun _ => mkI 2 0 0 []) (codeT t) t.sz mm code3.length = cR ++ optC (fun _ => mkI 2 0 0 []) (codeT t) t.sz (b - a) cR.length /\ js ++ optJ t.sz mm code3.length = optJ t.sz (b - a) cR.length) \/ (big3 = true /\ code3.length = 400 /\ 400 < cR.length + (b - a) * (t.sz + 1)))) (b - a) ?_ ?_
  ·exact ⟨0,n.mn,cd, .nul,dk,code2,big2, [],rfl,hH,by omega,by simp,by simp,hO3⟩
  rintro mm fr st ⟨i,z,cd,jd,dk,code3,big3,js,hfr,hH,hi,hz,hjl,hO3⟩;rw [hfr];clear hfr;generalize ixF_Gf fr = ee;clear fr;refine qq ?_;refine qq ?_;refine EvC.cutT 74 (.bool (decide (z < n.mx) && !big3)) [] ?_ (fun ff tmp htmp => ?_)
  ·refine qm ?_;refine qp (o := 3) ?_;refine ql hH at4 ?_;refine qg ?_;refine qm ?_;refine EvO.two 68 rfl (fun hg4 => ?_) (fun hg4 => ?_)
   ·refine qm ?_ (hg := wi hg4);refine qg ?_ (hg := wi hg4);refine qp (o := 1) ?_ (hg := wi hg4);refine ql hH at0 ?_ (hg := wi hg4);refine qg ?_ (hg := wi hg4);refine qt hg4 ?_;refine EvO.nil (leafT ?_ ?_)
    ·dsimp only [setW,List.foldl,nth,u2,u1]
     all_goals (first | rfl | simp)
    ·dsimp only [Fr.putO,Fr.put,Fr.clean,Fr.ev,Fr.get,nth,V.look,u1,u2,v1,v2,v3,v4,v5,v6,v7,List.length,u3,u4,Nat.reduceSub,Nat.reduceAdd,List.map]
     all_goals (simp [hg4]; done)
   ·refine qs ?_ (hg := wn hg4);refine qs ?_ (hg := wn hg4);refine qs ?_ (hg := wn hg4);refine qs ?_ (hg := wn hg4);refine qs ?_ (hg := wn hg4);refine qu hg4 ?_;refine EvO.nil (leafT ?_ ?_)
    ·dsimp only [setW,List.foldl,nth,u2,u1]
     all_goals (first | rfl | simp)
    ·dsimp only [Fr.putO,Fr.put,Fr.clean,Fr.ev,Fr.get,nth,V.look,u1,u2,v1,v2,v3,v4,v5,v6,v7,List.length,u3,u4,Nat.reduceSub,Nat.reduceAdd,List.map]
     all_goals (simp [hg4]; done)
  dsimp only [setW,List.foldl,nth,u2,u1];dsimp only [Fr.putO,Fr.put,Fr.clean,Fr.ev,Fr.get,nth,V.look,u1,u2,v1,v2,v3,v4,v5,v6,v7,List.length,u3,u4,Nat.reduceSub,Nat.reduceAdd,List.map]
  by_cases hgo : i < b - a /\ big3 = false
  ·obtain ⟨hlt,hbf⟩ := hgo;have hcc : (decide (z < n.mx) && !big3) = true := by rw [hbf,decide_eq_true (by omega)]; rfl
   rw [hcc] at htmp
   obtain ⟨hl2,hcode,hjs⟩ : code3.length <= 400 /\ code3 ++ optC (fun _ => mkI 2 0 0 []) (codeT t) t.sz mm code3.length = cR ++ optC (fun _ => mkI 2 0 0 []) (codeT t) t.sz (b - a) cR.length /\ js ++ optJ t.sz mm code3.length = optJ t.sz (b - a) cR.length := by
    rcases hO3 with h | h
    ·exact h.2
    ·rw [hbf] at h; cases h.1
   obtain ⟨mm',hmm⟩ : ∃ mm',mm = mm' + 1 := ⟨mm - 1,by omega⟩
   have hlen := congrArg List.length hcode;rw [List.length_append,List.length_append,hE,optC_len htc,hmm,Nat.succ_mul] at hlen;rw [hmm] at hcode hjs;simp only [optC,optJ] at hcode hjs;have hm1 : mm - 1 = mm' := by omega
   refine qB ?_;refine EvC.skip ?_;refine qq ?_;refine EvC.block ?_;refine qq ?_;refine qj fun K hK => ?_;refine qm ?_;refine qm ?_;refine EvO.go (d := .agg [.int .i64 2, .int .i64 0, .int .i64 0, .nul]) (st1 := _) rfl rfl rfl (put_T rfl _) ?_;obtain ⟨_,st,hev,rfl,cd,dk,code4,big4,hH,hO4⟩ := cput_ev (rs := []) hF (.inl ⟨rfl,rfl⟩) ⟨cd,dk,code3,big3,hH, .inl ⟨hbf,rfl,hl2⟩⟩;refine qv hev ?_;refine qh (s := 1) (vs := [_]) hH fun k81 st hk81 hH => ?_;dsimp only [u2,u1,u3,u4,setMany,u5,u6,D.cells,Nat.reduceAdd,insC,natC,tC,trC,nodC] at hH;refine EvO.happend (s := 1) hH rfl (ev rfl) (ev rfl) (by exact at3) (by exact hH.rows (by exact at0)) rfl rfl rfl rfl rfl rfl rfl ⟨(Nat.le_of_ble_eq_true rfl),(Nat.le_of_ble_eq_true rfl)⟩ (fun _ => (put_T rfl _)) (by simp only [List.length_cons,List.length_nil,List.length_map] <;> omega) (by exact .inl hF) (fun x82 st hH => ?_);dsimp only [u2,u1,u3,u4,setMany,u5,u6,D.cells,Nat.reduceAdd,insC,natC,tC,trC,nodC] at hH;refine qm ?_;refine qe hK ?_;have hH : Has N S st (.box k (.mem 0 false [cd, .bool big4]) :: .deep dk cd 4 (code4.map insC) :: .lst x82 1 _ :: .box k5 (.mem 0 false (tC t)) :: .box k4 (.mem 0 false (nodC n)) :: H) := hH.drop 1;have hcl1 : (code3 ++ [mkI 2 0 0 []]).length = code3.length + 1 := by simp
   refine qj fun K hK => ?_;refine qm ?_;refine EvO.hloadS (m := 8) (r := tC t) hH rfl (ev rfl) at3 rfl rfl rfl (put_T rfl _) ?_;obtain ⟨_,st,hev,rfl,cd,dk,code5,big5,hH,hO5⟩ := ih hF ⟨cd,dk,code4,big4,hH,hO4⟩;refine qv hev ?_;refine qe hK ?_;rw [hcl1] at hO5;have hcl2 : (code3 ++ [mkI 2 0 0 []] ++ codeT t (code3.length + 1)).length = code3.length + 1 + t.sz := by rw [List.length_append,hcl1,htc]
   refine qj fun K hK => ?_;refine qm ?_;refine EvO.addZ (z := (z + 1)) rfl (ev rfl) (ev rfl) (by (try simp only [List.length_reverse,List.length_cons,List.length_nil,List.length_append,List.length_map,List.length_set]); rw [wrap_i64 (by omega) (by omega)] <;> omega) (put_T rfl _) ?_;refine qm ?_;refine qe hK ?_
   by_cases hb5 : big5 = false
   ·obtain ⟨h52,h53⟩ : code5 = code3 ++ [mkI 2 0 0 []] ++ codeT t (code3.length + 1) /\ (code3 ++ [mkI 2 0 0 []] ++ codeT t (code3.length + 1)).length <= 400 := by
     rcases hO5 with h | h
     ·exact h.2
     ·rw [hb5] at h; cases h.1
    rw [hcl2] at h53;rw [if_pos (by omega)] at hH;have hc5 : code5.length = code3.length + 1 + t.sz := by rw [h52,hcl2]
    exact ⟨mm - 1,by omega,⟨i + 1,z + 1,cd,x82,dk,code5,big5,js ++ [code3.length],rfl,(by rw [List.map_append]; exact hH),by omega,by omega,(by rw [List.length_append]; simp only [List.length_cons,List.length_nil]; omega), .inl ⟨hb5,by omega,by rw [hc5,h52,hm1, <- hcode]; simp only [List.append_assoc,List.cons_append,List.nil_append],by rw [hc5,hm1, <- hjs]; simp only [List.append_assoc,List.cons_append,List.nil_append]⟩⟩⟩
   ·obtain ⟨h51,h52,h53⟩ : big5 = true /\ code5.length = 400 /\ 400 < (code3 ++ [mkI 2 0 0 []] ++ codeT t (code3.length + 1)).length := by
     rcases hO5 with h | h
     ·exact absurd h.1 hb5
     ·exact h
    rw [hcl2] at h53;exact ⟨mm - 1,by omega,⟨i + 1,z + 1,cd,x82,dk,code5,big5,js ++ [if code3.length < 400 then code3.length else 0],rfl,(by rw [List.map_append]; exact hH),by omega,by omega,(by rw [List.length_append]; simp only [List.length_cons,List.length_nil]; omega), .inr ⟨h51,h52,by omega⟩⟩⟩
  have hcc : (decide (z < n.mx) && !big3) = false := by
   by_cases h : i < b - a
   ·have : big3 = true := by cases big3; exact absurd ⟨h,rfl⟩ hgo; rfl
    rw [this]; simp
   ·rw [decide_eq_false (by omega)]; rfl
  have hp := opt_patch (sp := fun s => spI s (cR.length + (b - a) * (t.sz + 1)) n.lz) htc (i0 := mkI 2 0 0 []) (b - a) cR.length cR [] rfl;obtain ⟨hp1,hp2⟩ := hp;simp only [List.append_nil] at hp1 hp2;have hC0 : (cR ++ optC (fun _ => mkI 2 0 0 []) (codeT t) t.sz (b - a) cR.length).length = cR.length + (b - a) * (t.sz + 1) := by rw [List.length_append,hE]
  have hfin : (cR ++ optC (fun s => spI s (cR.length + (b - a) * (t.sz + 1)) n.lz) (codeT t) t.sz (b - a) cR.length).length = cR.length + (b - a) * (t.sz + 1) := by rw [List.length_append,hE2]
  have hC3 : (big3 = false /\ setAll (fun s => spI s (cR.length + (b - a) * (t.sz + 1)) n.lz) code3 (js.drop 0) = cR ++ optC (fun s => spI s (cR.length + (b - a) * (t.sz + 1)) n.lz) (codeT t) t.sz (b - a) cR.length /\ (∀ p ∈ js, ∃ x y : Int,code3[p]? = some (mkI 2 x y [])) /\ code3.length = cR.length + (b - a) * (t.sz + 1) /\ cR.length + (b - a) * (t.sz + 1) <= 400) \/ (big3 = true /\ code3.length = 400 /\ 400 < cR.length + (b - a) * (t.sz + 1)) := by
   rcases hO3 with ⟨h1,h2,h3,h4⟩ | h
   ·have hm0 : mm = 0 := by
     by_cases h : i < b - a
     ·exact absurd ⟨h,h1⟩ hgo
     ·omega
    rw [hm0] at h3 h4;simp only [optC,optJ,List.append_nil] at h3 h4;exact .inl ⟨h1,by rw [h3,h4]; exact hp1,fun p hp => ⟨_,_,by rw [h3]; exact hp2 p (h4 ▸ hp)⟩,by rw [h3]; exact hC0,by rw [h3,hC0] at h2; exact h2⟩
   ·exact .inr h
  rw [hcc] at htmp;refine qC ?_;refine EvC.exit ?_;clear hp1 hp2 hE hE2 hO3 hC0;generalize cR ++ optC (fun s => spI s (cR.length + (b - a) * (t.sz + 1)) n.lz) (codeT t) t.sz (b - a) cR.length = C1 at *;generalize cR.length + (b - a) * (t.sz + 1) = e at *;refine qq ?_;refine qj fun K hK => ?_;refine qm ?_;refine qe hK ?_;refine EvC.block ?_;refine EvC.loop (fun mm fr st => ∃ (q : Nat) (C : List PIns),fr.clean = ⟨12, [.ptr k 0 0,ixF_Gf fr 1,ixF_Gf fr 2,ixF_Gf fr 3, .ptr k4 0 0,ixF_Gf fr 5,ixF_Gf fr 6,ixF_Gf fr 7,ixF_Gf fr 8,jd,ixF_Gf fr 10, .int .i64 (q : Nat)], []⟩ /\ Has N S st (.box k (.mem 0 false [cd, .bool big3]) :: .deep dk cd 4 (C.map insC) :: .lst jd 1 (js.map natC) :: .box k5 (.mem 0 false (tC t)) :: .box k4 (.mem 0 false (nodC n)) :: H) /\ (q + mm = js.length) /\ ((big3 = false /\ setAll (fun s => spI s e n.lz) C (js.drop q) = C1 /\ (∀ p ∈ js, ∃ x y : Int,C[p]? = some (mkI 2 x y [])) /\ C.length = e /\ e <= 400) \/ (big3 = true /\ C.length = 400 /\ 400 < e))) (js.length) ?_ ?_
  ·exact ⟨0,code3,rfl,hH,by omega,hC3⟩
  rintro mm fr st ⟨q,C,hfr,hH,hq,hC⟩;rw [hfr];clear hfr;generalize ixF_Gf fr = ee;clear fr;refine qq ?_;refine qq ?_;refine EvC.cutT 96 (.bool (decide ((q : Int) < (js.length : Nat)) && !big3)) [] ?_ (fun ff tmp htmp => ?_)
  ·refine qm ?_;refine qm ?_;refine qn ?_ (hR := hH.rows at2);simp only [List.length_map];refine qg ?_;refine qm ?_;refine EvO.two 90 rfl (fun hg4 => ?_) (fun hg4 => ?_)
   ·refine qm ?_ (hg := wi hg4);refine qg ?_ (hg := wi hg4);refine qp (o := 1) ?_ (hg := wi hg4);refine ql hH at0 ?_ (hg := wi hg4);refine qg ?_ (hg := wi hg4);refine qt hg4 ?_;refine EvO.nil (leafT ?_ ?_)
    ·dsimp only [setW,List.foldl,nth,u2,u1]
     all_goals (first | rfl | simp)
    ·dsimp only [Fr.putO,Fr.put,Fr.clean,Fr.ev,Fr.get,nth,V.look,u1,u2,v1,v2,v3,v4,v5,v6,v7,List.length,u3,u4,Nat.reduceSub,Nat.reduceAdd,List.map]
     all_goals (simp_all; done)
   ·refine qs ?_ (hg := wn hg4);refine qs ?_ (hg := wn hg4);refine qs ?_ (hg := wn hg4);refine qs ?_ (hg := wn hg4);refine qs ?_ (hg := wn hg4);refine qu hg4 ?_;refine EvO.nil (leafT ?_ ?_)
    ·dsimp only [setW,List.foldl,nth,u2,u1]
     all_goals (first | rfl | simp)
    ·dsimp only [Fr.putO,Fr.put,Fr.clean,Fr.ev,Fr.get,nth,V.look,u1,u2,v1,v2,v3,v4,v5,v6,v7,List.length,u3,u4,Nat.reduceSub,Nat.reduceAdd,List.map]
     all_goals (simp_all; omega)
  dsimp only [setW,List.foldl,nth,u2,u1];dsimp only [Fr.putO,Fr.put,Fr.clean,Fr.ev,Fr.get,nth,V.look,u1,u2,v1,v2,v3,v4,v5,v6,v7,List.length,u3,u4,Nat.reduceSub,Nat.reduceAdd,List.map]
  by_cases hgo : q < js.length /\ big3 = false
  ·obtain ⟨hql,hbf⟩ := hgo;have hcc : (decide ((q : Int) < (js.length : Nat)) && !big3) = true := by rw [hbf]; simp; omega
   rw [hcc] at htmp
   obtain ⟨hset,hall,hCl,he4⟩ : setAll (fun s => spI s e n.lz) C (js.drop q) = C1 /\ (∀ p ∈ js, ∃ x y : Int,C[p]? = some (mkI 2 x y [])) /\ C.length = e /\ e <= 400 := by
    rcases hC with h | h
    ·exact h.2
    ·rw [hbf] at h; cases h.1
   obtain ⟨p,hp⟩ : ∃ p,js[q]? = some p := ⟨js[q]'hql,List.getElem?_eq_getElem _⟩
   obtain ⟨x,y,hv⟩ := hall p (List.mem_of_getElem? hp);have hr1 := natC_get hp;have hpl := lt_get hv;refine qB ?_;refine EvC.skip ?_;refine qq ?_;refine EvC.block ?_;refine qj fun K hK => ?_;refine qm ?_;refine qm ?_;refine qm ?_;refine qi hH at2 fun p102 hp102 => ?_;refine qo hH at2 ?_;refine qm ?_;refine qg ?_;refine qp (o := 0) ?_;refine ql hH at0 ?_;refine EvO.dlen hH rfl (ev rfl) (by exact at1) rfl (put_T rfl _) ?_;simp only [List.length_map];refine qp (o := 4) ?_;refine ql hH at4 ?_;obtain ⟨_,st,hev,rfl,hH⟩ := fork_ev (at_ := p) (over := C.length) (lz := n.lz) hv (by omega) hH;refine qv hev ?_;refine qe hK ?_;refine qj fun K hK => ?_;refine qm ?_;refine qA ?_;refine qm ?_;refine qe hK ?_;have hdr : js.drop q = p :: js.drop (q + 1) := drop_cons hp
   have hall' : ∀ p' ∈ js, ∃ x y : Int,(C.set p (spI p e n.lz))[p']? = some (mkI 2 x y []) := by
    intro p' hp'
    by_cases hpp : p' = p
    ·subst hpp;obtain ⟨x',y',hxy⟩ := spI_form p' e n.lz;exact ⟨x',y',by rw [List.getElem?_set_self hpl,hxy]⟩
    ·rw [List.getElem?_set_ne (fun e => hpp e.symm)]; exact hall p' hp'
   exact ⟨mm - 1,by omega,⟨q + 1,C.set p (spI p e n.lz),rfl,(by rw [hCl] at hH; exact hH),by omega, .inl ⟨hbf,by rw [hdr] at hset; exact hset,hall',by rw [List.length_set]; exact hCl,he4⟩⟩⟩
  ·have hcc : (decide ((q : Int) < (js.length : Nat)) && !big3) = false := by
    by_cases h : q < js.length
    ·have : big3 = true := by cases big3; exact absurd ⟨h,rfl⟩ hgo; rfl
     rw [this]; simp
    ·rw [decide_eq_false (by omega)]; rfl
   rw [hcc] at htmp;refine qC ?_;refine EvC.exit ?_;refine ⟨fun i h => (by cases h),_,_,_,rfl,rfl,?_⟩;refine ⟨rfl,cd,dk,C,big3,((hH.erase 2).erase 2).erase 2,?_⟩
   rcases hC with ⟨h1,h2,h3,h4,h5⟩ | ⟨h1,h2,h3⟩
   ·have he : js.drop q = [] := List.drop_eq_nil_of_le (by
     by_cases h : q < js.length
     ·exact absurd ⟨h,h1⟩ hgo
     ·omega)
    rw [he] at h2;have h2 : C = C1 := h2;exact .inl ⟨h1,h2,by rw [hfin]; exact h5⟩
   ·exact .inr ⟨h1,h2,by rw [hfin]; exact h3⟩
def ixF_Gg (fr : Go.V.Fr) (k : Nat) : Go.V.D := Go.V.nth .junk fr.loc k
theorem codeT_eq (t : Tr) (b : Nat) : codeT t b = if t.n.op = 2 then [mkI 1 0 0 t.n.rs]
  else if t.n.op = 7 then [mkI 5 0 0 []]
  else if t.n.op = 8 then [mkI 6 0 0 []]
  else if t.n.op = 3 then catT (trsOf t.ks) b
  else if t.n.op = 4 then altT (jpI (b + nodSz t.n (szL t.ks) t.ks.length)) (trsOf t.ks) b
  else if t.n.op = 5 then rptC t.n (catT (trsOf t.ks)) (szL t.ks) b
  else if t.n.op = 6 then mkI 4 (2 * t.n.cap) 0 [] :: (catT (trsOf t.ks) (b + 1) ++ [mkI 4 (2 * t.n.cap + 1) 0 []])
  else [] := by
 cases t with
 | mk n ks => simp only [codeT,Tr.n,Tr.ks,trs_of,trs_sz,trs_len]
theorem catT_oneF (p : Tr) : catT (trsOf [p]) = codeT p := by
 funext b; simp [trsOf,catT]
theorem cnode_ev : ∀ (m : Nat) (t : Tr),t.cnt <= m -> m <= 1048576 -> t.ok -> t.fa NdR -> CoSpec t := by
 intro m
 induction m with
 | zero => intro t h; have := Tr.cnt_eq t; omega
 | succ m ihm =>
  intro t h hm hok hfa N k S s0 H full hF hM;obtain ⟨cd,dk,code,big,hH,hO⟩ := hM;have hkc := Tr.cnt_eq t;have hkl := cntL_len t.ks;obtain ⟨ho,hko⟩ := Tr.ok_eq.1 hok;obtain ⟨hnr,hkf⟩ := Tr.fa_eq.1 hfa;have ih : ∀ p ∈ t.ks,CoSpec p := fun p hp => ihm p (by have := cntL_mem hp; omega) (by omega) (hko p hp) (hkf p hp);have hrd := hnr.1;have hw2 : t.n.rd = .sl ((t.n.rs.map rangeC).map (elD 2)) := by rw [hrd]; exact (rangesV_el _).symm
  refine Ev.mkE rfl fi56 rfl rfl rfl ?_;dsimp only [u3,u4,List.length,Nat.reduceSub,Nat.reduceAdd,w1,w2];change EvC _ _ _ _ s0 _;have hc := (kid_sl hkf).arg N S;refine qq ?_;refine qj fun K hK => ?_;refine qb hH fun k3 st hk3 hH => ?_;dsimp only [u2,u1,u3,u4,setMany,u5,u6,D.cells,Nat.reduceAdd,insC,natC,tC,trC,nodC] at hH;refine qe hK ?_;have hH : Has N S st (.box k (.mem 0 false [cd, .bool big]) :: .deep dk cd 4 (code.map insC) :: .box k3 (.mem 0 false (tC t)) :: H) := Has.rot [_] [_,_] hH;refine qq ?_;refine qq ?_;refine qj fun K hK => ?_;refine qm ?_;refine qg ?_;refine qp (o := 1) ?_;refine ql hH at0 ?_;refine qe hK ?_
  by_cases hbf : big = true
  ·refine qD rfl (by rw [hbf]) ?_;refine EvC.ret ⟨rx,_,_,_,rfl,rfl,?_⟩
   rcases hO with ⟨h1,_⟩ | ⟨h1,h2,h3⟩
   ·rw [hbf] at h1; cases h1
   ·exact ⟨rfl,cd,dk,code,big,hH.erase 2, .inr ⟨h1,h2,by rw [List.length_append]; omega⟩⟩
  have hbf : big = false := by simpa using hbf
  obtain ⟨hcf,hfl⟩ : code = full /\ full.length <= 400 := by
   rcases hO with ⟨h1,h2⟩ | ⟨h1,_⟩
   ·exact h2
   ·rw [hbf] at h1; cases h1
  rw [codeT_eq];refine qE rfl (by rw [hbf]) ?_;refine EvC.skip ?_;refine qq ?_;refine qj fun K hK => ?_;refine qp (o := 0) ?_;refine qp (o := 0) ?_;refine ql hH at2 ?_;refine qe hK ?_;refine EvC.block ?_;refine qq ?_;refine qj fun K hK => ?_;refine qg ?_;refine qm ?_;refine qe hK ?_
  by_cases q2 : t.n.op = 2
  ·rw [if_pos q2];refine qD rfl (by simp [q2]) ?_;refine qj fun K hK => ?_;refine qm ?_;refine qp (o := 0) ?_;refine qp (o := 1) ?_;refine ql hH at2 ?_;refine EvO.go (d := .agg [.int .i64 1, .int .i64 0, .int .i64 0,t.n.rd]) (st1 := _) rfl rfl (by rw [hrd]; rfl) (put_T rfl _) ?_;obtain ⟨_,st,hev,rfl,cd,dk,code3,big3,hH,hO3⟩ := cput_ev (rs := t.n.rs) hF (.inr hw2) ⟨cd,dk,code,big,hH,hO⟩;refine qv hev ?_;refine qe hK ?_;refine ⟨fun i h => (by cases h),_,_,_,rfl,rfl,?_⟩;exact ⟨rfl,cd,dk,code3,big3,hH.erase 2,hO3⟩
  rw [if_neg q2];refine qE rfl (by simp [q2]) ?_;refine qq ?_;refine qj fun K hK => ?_;refine qg ?_;refine qm ?_;refine qe hK ?_
  by_cases q3 : t.n.op = 3
  ·rw [if_neg (by omega),if_neg (by omega),if_pos q3];refine qD rfl (by simp [q3]) ?_;refine qq ?_;refine qj fun K hK => ?_;refine qm ?_;refine qe hK ?_;refine EvC.block ?_;refine EvC.loop (fun mm fr st => ∃ (i : Nat) (cd : D) (dk : Nat -> Prop) (code2 full2 : List PIns) (big2 : Bool),fr.clean = ⟨12, [.ptr k 0 0,ixF_Gg fr 1,ixF_Gg fr 2, .ptr k3 0 0, .int .i64 (i : Nat),ixF_Gg fr 5,ixF_Gg fr 6,ixF_Gg fr 7,ixF_Gg fr 8,ixF_Gg fr 9,ixF_Gg fr 10,ixF_Gg fr 11], []⟩ /\ Has N S st (.box k (.mem 0 false [cd, .bool big2]) :: .deep dk cd 4 (code2.map insC) :: .box k3 (.mem 0 false (tC t)) :: H) /\ (i + mm = t.ks.length) /\ ((big2 = false /\ code2 = full2 /\ full2.length <= 400) \/ (big2 = true /\ code2.length = 400 /\ 400 < full2.length)) /\ (full2 ++ catT (trsOf (t.ks.drop i)) full2.length = full ++ catT (trsOf t.ks) full.length)) (t.ks.length) ?_ ?_
   ·exact ⟨0,cd,dk,code,full,big,rfl,hH,by omega,hO,rfl⟩
   rintro mm fr st ⟨i,cd,dk,code2,full2,big2,hfr,hH,hi,hO2,hc2⟩;rw [hfr];clear hfr;generalize ixF_Gg fr = ee;clear fr;refine qq ?_;refine qq ?_;refine EvC.cutT 33 (.bool (decide ((i : Int) < (t.ks.length : Nat)) && !big2)) [] ?_ (fun ff tmp htmp => ?_)
   ·refine qm ?_;refine qp (o := 7) ?_;refine ql hH at2 ?_;refine qn ?_;simp only [List.length_map];refine qg ?_;refine qm ?_;refine EvO.two 27 rfl (fun hg5 => ?_) (fun hg5 => ?_)
    ·refine qm ?_ (hg := wi hg5);refine qg ?_ (hg := wi hg5);refine qp (o := 1) ?_ (hg := wi hg5);refine ql hH at0 ?_ (hg := wi hg5);refine qg ?_ (hg := wi hg5);refine qt hg5 ?_;refine EvO.nil (leafT ?_ ?_)
     ·dsimp only [setW,List.foldl,nth,u2,u1]
      all_goals (first | rfl | simp)
     ·dsimp only [Fr.putO,Fr.put,Fr.clean,Fr.ev,Fr.get,nth,V.look,u1,u2,v1,v2,v3,v4,v5,v6,v7,List.length,u3,u4,Nat.reduceSub,Nat.reduceAdd,List.map]
      all_goals (simp_all; done)
    ·refine qs ?_ (hg := wn hg5);refine qs ?_ (hg := wn hg5);refine qs ?_ (hg := wn hg5);refine qs ?_ (hg := wn hg5);refine qs ?_ (hg := wn hg5);refine qu hg5 ?_;refine EvO.nil (leafT ?_ ?_)
     ·dsimp only [setW,List.foldl,nth,u2,u1]
      all_goals (first | rfl | simp)
     ·dsimp only [Fr.putO,Fr.put,Fr.clean,Fr.ev,Fr.get,nth,V.look,u1,u2,v1,v2,v3,v4,v5,v6,v7,List.length,u3,u4,Nat.reduceSub,Nat.reduceAdd,List.map]
      all_goals (simp_all; omega)
   dsimp only [setW,List.foldl,nth,u2,u1];dsimp only [Fr.putO,Fr.put,Fr.clean,Fr.ev,Fr.get,nth,V.look,u1,u2,v1,v2,v3,v4,v5,v6,v7,List.length,u3,u4,Nat.reduceSub,Nat.reduceAdd,List.map]
   by_cases hgo : i < t.ks.length /\ big2 = false
   ·obtain ⟨hlt,hb2⟩ := hgo;have hcc : (decide ((i : Int) < (t.ks.length : Nat)) && !big2) = true := by rw [hb2]; simp; omega
    rw [hcc] at htmp
    obtain ⟨p,hp⟩ : ∃ p,t.ks[i]? = some p := ⟨t.ks[i]'hlt,List.getElem?_eq_getElem _⟩
    have hpm := List.mem_of_getElem? hp;have hr1 := t_get hp;have hpl := codeT_len p full2.length (hko p hpm);rw [drop_cons hp] at hc2;simp only [trsOf,catT] at hc2;refine qB ?_;refine EvC.skip ?_;refine qq ?_;refine EvC.block ?_;refine qj fun K hK => ?_;refine qm ?_;refine qp (o := 7) ?_;refine ql hH at2 ?_;refine qm ?_;refine qr fun p40 hp40 => ?_;refine EvO.rloadS rfl (ev rfl) (by assumption) rfl (put_T rfl _) ?_;obtain ⟨_,st,hev,rfl,cd,dk,code3,big3,hH,hO3⟩ := ih p hpm hF ⟨cd,dk,code2,big2,hH,hO2⟩;refine qv hev ?_;refine qe hK ?_;refine qj fun K hK => ?_;refine qm ?_;refine qA ?_;refine qm ?_;refine qe hK ?_;exact ⟨mm - 1,by omega,⟨i + 1,cd,dk,code3,full2 ++ codeT p full2.length,big3,rfl,hH,by omega,hO3,(by rw [List.length_append,hpl,List.append_assoc]; exact hc2)⟩⟩
   ·have hcc : (decide ((i : Int) < (t.ks.length : Nat)) && !big2) = false := by
     by_cases h : i < t.ks.length
     ·have : big2 = true := by cases big2; exact absurd ⟨h,rfl⟩ hgo; rfl
      rw [this]; simp
     ·rw [decide_eq_false (by omega)]; rfl
    rw [hcc] at htmp;refine qC ?_;refine EvC.exit ?_;refine ⟨fun i h => (by cases h),_,_,_,rfl,rfl,?_⟩;refine ⟨rfl,cd,dk,code2,big2,hH.erase 2,?_⟩
    rcases hO2 with ⟨h1,h2,h3⟩ | ⟨h1,h2,h3⟩
    ·have he : t.ks.drop i = [] := List.drop_eq_nil_of_le (by
      by_cases h : i < t.ks.length
      ·exact absurd ⟨h,h1⟩ hgo
      ·omega)
     rw [he] at hc2;simp only [trsOf,catT,List.append_nil] at hc2;exact .inl ⟨h1,by rw [h2]; exact hc2,by rw [<- hc2]; exact h3⟩
    ·exact .inr ⟨h1,h2,by rw [<- hc2,List.length_append]; omega⟩
  refine qE rfl (by simp [q3]) ?_;refine qq ?_;refine qj fun K hK => ?_;refine qg ?_;refine qm ?_;refine qe hK ?_
  by_cases q4 : t.n.op = 4
  ·rw [if_neg (by omega),if_neg (by omega),if_neg q3,if_pos q4];have hk2 : 2 <= t.ks.length := by obtain ⟨_,hq⟩ := ho; omega
   have hns : nodSz t.n (szL t.ks) t.ks.length = szL t.ks + 2 * (t.ks.length - 1) := by unfold nodSz; rw [if_neg (by omega),if_pos q4]
   rw [hns];refine qD rfl (by simp [q4]) ?_;refine qj fun K hK => ?_;refine qm ?_;refine qp (o := 7) ?_;refine ql hH at2 ?_;obtain ⟨_,st,hev,rfl,cd,dk,code3,big3,hH,hO3⟩ := calt_ev ih hko hkf hk2 (by omega) hF ⟨cd,dk,code,big,hH,hO⟩;refine qv hev ?_;refine qe hK ?_;refine ⟨fun i h => (by cases h),_,_,_,rfl,rfl,?_⟩;exact ⟨rfl,cd,dk,code3,big3,hH.erase 2,hO3⟩
  refine qE rfl (by simp [q4]) ?_;refine qq ?_;refine qj fun K hK => ?_;refine qg ?_;refine qm ?_;refine qe hK ?_
  by_cases q5 : t.n.op = 5
  ·rw [if_neg (by omega),if_neg (by omega),if_neg q3,if_neg q4,if_pos q5];have hk1 : t.ks.length = 1 := by obtain ⟨_,hq⟩ := ho; omega
   obtain ⟨p,hp⟩ : ∃ p,t.ks = [p] := List.length_eq_one_iff.1 hk1;have hpm : p ∈ t.ks := by rw [hp]; simp
   have hz : szL t.ks = p.sz := by rw [hp]; simp [szL]
   have hr1 : (t.ks.map tC)[0]? = some (tC p) := by rw [hp]; rfl
   have hct : catT (trsOf t.ks) = codeT p := by rw [hp]; exact catT_oneF p
   rw [hz,hct];have hno1 : nodOk t.n 1 := by rw [<- hk1]; exact ho
   have hpc : p.cnt <= 1048576 := by have := cntL_mem hpm; omega
   have hcr := fun (st : St) (hM : CoH N S st k (.box k3 (.mem 0 false (tC t)) :: H) full) => crepeat_ev (ih p hpm) (hko p hpm) (hkf p hpm) hnr q5 hno1 hpc hF hM;refine qD rfl (by simp [q5]) ?_;refine qj fun K hK => ?_;refine qm ?_;refine qp (o := 0) ?_;refine EvO.hloadS (m := 7) (r := nodC t.n) hH rfl (ev rfl) at2 rfl rfl rfl (put_T rfl _) ?_;refine qp (o := 7) ?_;refine ql hH at2 ?_;refine qr fun p56 hp56 => ?_;refine EvO.rloadS rfl (ev rfl) (by assumption) rfl (put_T rfl _) ?_;obtain ⟨_,st,hev,rfl,cd,dk,code3,big3,hH,hO3⟩ := hcr _ ⟨cd,dk,code,big,hH,hO⟩;refine qv hev ?_;refine qe hK ?_;refine ⟨fun i h => (by cases h),_,_,_,rfl,rfl,?_⟩;exact ⟨rfl,cd,dk,code3,big3,hH.erase 2,hO3⟩
  refine qE rfl (by simp [q5]) ?_;refine qq ?_;refine qj fun K hK => ?_;refine qg ?_;refine qm ?_;refine qe hK ?_
  by_cases q6 : t.n.op = 6
  ·rw [if_neg (by omega),if_neg (by omega),if_neg q3,if_neg q4,if_neg q5,if_pos q6];have hk1 : t.ks.length = 1 /\ 1 <= t.n.cap /\ t.n.cap <= 4 := by obtain ⟨_,hq⟩ := ho; omega
   obtain ⟨p,hp⟩ : ∃ p,t.ks = [p] := List.length_eq_one_iff.1 hk1.1;have hpm : p ∈ t.ks := by rw [hp]; simp
   have hr1 : (t.ks.map tC)[0]? = some (tC p) := by rw [hp]; rfl
   have hct : catT (trsOf t.ks) = codeT p := by rw [hp]; exact catT_oneF p
   rw [hct];refine qD rfl (by simp [q6]) ?_;refine qq ?_;refine qj fun K hK => ?_;refine qm ?_;refine qp (o := 0) ?_;refine qp (o := 5) ?_;refine ql hH at2 ?_;refine EvO.mulZ (z := (2 * t.n.cap)) rfl (ev rfl) (ev rfl) (by (try simp only [List.length_reverse,List.length_cons,List.length_nil,List.length_append,List.length_map,List.length_set]); rw [wrap_i64 (by omega) (by omega)] <;> omega) (put_T rfl _) ?_;refine EvO.go (d := .agg [.int .i64 4, .int .i64 (2 * t.n.cap), .int .i64 0, .nul]) (st1 := _) rfl rfl rfl (put_T rfl _) ?_;obtain ⟨_,st,hev,rfl,cd,dk,code3,big3,hH,hO3⟩ := cput_ev (rs := []) hF (.inl ⟨rfl,rfl⟩) ⟨cd,dk,code,big,hH,hO⟩;refine qv hev ?_;refine qe hK ?_;have hl3 : (full ++ [mkI 4 (2 * t.n.cap) 0 []]).length = full.length + 1 := by simp
   refine qq ?_;refine qj fun K hK => ?_;refine qm ?_;refine qp (o := 7) ?_;refine ql hH at2 ?_;refine qr fun p71 hp71 => ?_;refine EvO.rloadS rfl (ev rfl) (by assumption) rfl (put_T rfl _) ?_;obtain ⟨_,st,hev,rfl,cd,dk,code4,big4,hH,hO4⟩ := ih p hpm hF ⟨cd,dk,code3,big3,hH,hO3⟩;refine qv hev ?_;refine qe hK ?_;rw [hl3] at hO4;refine qj fun K hK => ?_;refine qm ?_;refine qp (o := 0) ?_;refine qp (o := 5) ?_;refine ql hH at2 ?_;refine EvO.mulZ (z := (2 * t.n.cap)) rfl (ev rfl) (ev rfl) (by (try simp only [List.length_reverse,List.length_cons,List.length_nil,List.length_append,List.length_map,List.length_set]); rw [wrap_i64 (by omega) (by omega)] <;> omega) (put_T rfl _) ?_;refine EvO.addZ (z := (2 * t.n.cap + 1)) rfl (ev rfl) (ev rfl) (by (try simp only [List.length_reverse,List.length_cons,List.length_nil,List.length_append,List.length_map,List.length_set]); rw [wrap_i64 (by omega) (by omega)] <;> omega) (put_T rfl _) ?_;refine EvO.go (d := .agg [.int .i64 4, .int .i64 (2 * t.n.cap + 1), .int .i64 0, .nul]) (st1 := _) rfl rfl rfl (put_T rfl _) ?_;obtain ⟨_,st,hev,rfl,cd,dk,code5,big5,hH,hO5⟩ := cput_ev (rs := []) hF (.inl ⟨rfl,rfl⟩) ⟨cd,dk,code4,big4,hH,hO4⟩;refine qv hev ?_;refine qe hK ?_;refine ⟨fun i h => (by cases h),_,_,_,rfl,rfl,?_⟩;have hee : full ++ [mkI 4 (2 * t.n.cap) 0 []] ++ codeT p (full.length + 1) ++ [mkI 4 (2 * t.n.cap + 1) 0 []] = full ++ (mkI 4 (2 * t.n.cap) 0 [] :: (codeT p (full.length + 1) ++ [mkI 4 (2 * t.n.cap + 1) 0 []])) := by simp
   rw [hee] at hO5;exact ⟨rfl,cd,dk,code5,big5,hH.erase 2,hO5⟩
  refine qE rfl (by simp [q6]) ?_;refine qq ?_;refine qj fun K hK => ?_;refine qg ?_;refine qm ?_;refine qe hK ?_
  by_cases q7 : t.n.op = 7
  ·rw [if_pos q7];refine qD rfl (by simp [q7]) ?_;refine qj fun K hK => ?_;refine qm ?_;refine EvO.go (d := .agg [.int .i64 5, .int .i64 0, .int .i64 0, .nul]) (st1 := _) rfl rfl rfl (put_T rfl _) ?_;obtain ⟨_,st,hev,rfl,cd,dk,code3,big3,hH,hO3⟩ := cput_ev (rs := []) hF (.inl ⟨rfl,rfl⟩) ⟨cd,dk,code,big,hH,hO⟩;refine qv hev ?_;refine qe hK ?_;refine ⟨fun i h => (by cases h),_,_,_,rfl,rfl,?_⟩;exact ⟨rfl,cd,dk,code3,big3,hH.erase 2,hO3⟩
  refine qE rfl (by simp [q7]) ?_;refine qq ?_;refine qj fun K hK => ?_;refine qg ?_;refine qm ?_;refine qe hK ?_
  by_cases q8 : t.n.op = 8
  ·rw [if_neg q7,if_pos q8];refine qD rfl (by simp [q8]) ?_;refine qj fun K hK => ?_;refine qm ?_;refine EvO.go (d := .agg [.int .i64 6, .int .i64 0, .int .i64 0, .nul]) (st1 := _) rfl rfl rfl (put_T rfl _) ?_;obtain ⟨_,st,hev,rfl,cd,dk,code3,big3,hH,hO3⟩ := cput_ev (rs := []) hF (.inl ⟨rfl,rfl⟩) ⟨cd,dk,code,big,hH,hO⟩;refine qv hev ?_;refine qe hK ?_;refine ⟨fun i h => (by cases h),_,_,_,rfl,rfl,?_⟩;exact ⟨rfl,cd,dk,code3,big3,hH.erase 2,hO3⟩
  ·rw [if_neg q7,if_neg q8,if_neg q3,if_neg q4,if_neg q5,if_neg q6,List.append_nil];refine qE rfl (by simp [q8]) ?_;refine EvC.skip ?_;refine ⟨fun i h => (by cases h),_,_,_,rfl,rfl,?_⟩;exact ⟨rfl,cd,dk,code,big,hH.erase 2,hO⟩
def ixF_Gh (fr : Go.V.Fr) (k : Nat) : Go.V.D := Go.V.nth .junk fr.loc k
mutual
theorem Tr.kids_le : ∀ (t : Tr),t.ok -> ∀ n ∈ t.flat,n.kids <= ((t.flat.length : Nat) : Int)
 | .mk n ks,h,m,hm => by
  simp only [Tr.ok] at h;simp only [Tr.flat,List.mem_cons] at hm;have h1 := Trs.len_le ks;simp only [Tr.flat,List.length_cons]
  rcases hm with rfl | hm
  ·have := h.1.1; omega
  ·have := Trs.kids_le ks h.2 m hm; omega
theorem Trs.kids_le : ∀ (ts : Trs),ts.ok -> ∀ n ∈ ts.flat,n.kids <= ((ts.flat.length : Nat) : Int)
 | .nil,_,n,hn => by simp [Trs.flat] at hn
 | .cons t ts,h,n,hn => by
  simp only [Trs.ok] at h;simp only [Trs.flat,List.mem_append] at hn;simp only [Trs.flat,List.length_append]
  rcases hn with hn | hn
  ·have := Tr.kids_le t h.1 n hn; omega
  ·have := Trs.kids_le ts h.2 n hn; omega
end
theorem rcompileW_ev {s0 : St} {x : D} {rules : List Nl} (hx : V.Rows s0 1 x (rules.map nlC)) (hr : ∀ r ∈ rules,r.ok /\ ∀ n ∈ r.l,n.rd = rangesV n.rs) (hl : rules.length <= 1048576) : Ev pv 20 [x] s0 (compD (compileS (rules.map (·.l)))) s0 := by
 refine Ev.mk1 rfl fi20 rfl rfl rfl ?_;dsimp only [u3,u4,List.length,Nat.reduceSub,Nat.reduceAdd,w1,w2];obtain ⟨hSb,hF,hH⟩ := ri s0;generalize enterSt .ro s0 = S at *;have hx := Arg.of hx hSb;have hfz : ∀ (st : St) (e w : Int),freezeD st s0.bs.length false 16 (tupD [.agg [.nul, .nul], .int .i64 e, .int .i64 w]) = some (compD ⟨[], [],e,w⟩) := fun st e w => rfl;refine qq ?_;refine qj fun K hK => ?_;refine qa hH fun k2 st hk2 hH => ?_;refine qm ?_;refine qm ?_;refine qe hK ?_;refine qq ?_;refine qq ?_;refine qj fun K hK => ?_;refine qm ?_;refine qn ?_;simp only [List.length_map];refine qg ?_;refine qe hK ?_;unfold compileS
 by_cases h8 : 8 < rules.length
 ·rw [if_pos (by rw [List.length_map]; exact h8)];refine qD rfl (by simp; omega) ?_;refine qq ?_;refine qj fun K hK => ?_;refine EvO.go (d := .agg [.nul, .nul]) (st1 := _) rfl rfl rfl (put_T rfl _) ?_;refine qS hH at0 fun st hH => ?_;dsimp only [u2,u1,u3,u4,setMany,u5,u6,D.cells,Nat.reduceAdd,insC,nodC,intC,nlC,tC,trC] at hH;refine qm ?_;refine qm ?_;refine qe hK ?_;refine EvC.ret ⟨rx,_,hH.resCellTT rfl at0 rfl rfl rfl,rl hSb hH (hfz _ 13 8)⟩
 ·rw [if_neg (by rw [List.length_map]; exact h8)];refine qE rfl (by simp; omega) ?_;refine EvC.skip ?_;refine qq ?_;refine qj fun K hK => ?_;refine EvO.go (d := .agg [.nul, .bool false]) (st1 := _) rfl rfl rfl (put_T rfl _) ?_;refine qb hH fun k15 st hk15 hH => ?_;refine qm ?_;refine qe hK ?_;refine qq ?_;refine qj fun K hK => ?_;refine qa hH fun k6 st hk6 hH => ?_;refine qe hK ?_;refine qq ?_;refine qq ?_;refine qj fun K hK => ?_;refine qm ?_;refine qe hK ?_
  have hH : Has s0.bs.length S st (.box k15 (.mem 0 false [.nul, .bool false]) :: .deep (fun _ => False) .nul 4 (([] : List PIns).map insC) :: .box k6 (.mem 0 false [.nul, .nul]) :: .lst .nul 1 (([] : List Int).map intC) :: .box k2 (.mem 0 false [.nul, .nul]) :: []) := by
   have h1 : Has s0.bs.length S st (.lst .nul 1 (([] : List Int).map intC) :: .deep (fun _ => False) .nul 4 (([] : List PIns).map insC) :: .box k6 (.mem 0 false [.nul, .nul]) :: .box k15 (.mem 0 false [.nul, .bool false]) :: .box k2 (.mem 0 false [.nul, .nul]) :: []) := (hH.nulD 4).nulE 1;exact ((Has.rot [_] [_,_] h1).front at3)
  refine EvC.block ?_;refine EvC.loop (fun mm fr st => ∃ (r : Nat) (cd sd : D) (dk : Nat -> Prop) (code : List PIns) (starts : List Int),fr.clean = ⟨9, [x,ixF_Gh fr 1, .ptr k2 0 0, .int .i64 0, .int .i64 0, .ptr k15 0 0, .ptr k6 0 0, .int .i64 (r : Nat),ixF_Gh fr 8], []⟩ /\ Has s0.bs.length S st [.box k15 (.mem 0 false [cd, .bool false]), .deep dk cd 4 (code.map insC), .box k6 (.mem 0 false [.nul,sd]), .lst sd 1 (starts.map intC), .box k2 (.mem 0 false [.nul, .nul])] /\ (r + mm = rules.length) /\ (compS ((rules.drop r).map (·.l)) r code starts = compS (rules.map (·.l)) 0 [] []) /\ (code.length <= 400) /\ (starts.length <= r)) (rules.length) ?_ ?_
  ·exact ⟨0, .nul, .nul,(fun _ => False), [], [],rfl,hH,by omega,by rw [List.drop_zero],by simp,by simp⟩
  rintro mm fr st ⟨r,cd,sd,dk,code,starts,hfr,hH,hrr,hX,hcl,hst⟩;rw [hfr];clear hfr;generalize ixF_Gh fr = ee;clear fr;refine qq ?_;refine qq ?_;refine qj fun K hK => ?_;refine qm ?_;refine qm ?_;refine qn ?_;simp only [List.length_map];refine qg ?_;refine qe hK ?_
  by_cases hlt : r < rules.length
  ·obtain ⟨q,hq⟩ : ∃ q,rules[r]? = some q := ⟨rules[r]'hlt,List.getElem?_eq_getElem _⟩
   obtain ⟨hqo,hqw⟩ := hr q (List.mem_of_getElem? hq);have hr1 := nl_get hq;rw [drop_cons hq,List.map_cons,compS] at hX;refine qD rfl (by simp; omega) ?_;refine EvC.skip ?_;refine qq ?_;refine EvC.block ?_;refine qq ?_;refine qq ?_;refine qj fun K hK => ?_;refine qm ?_;refine qm ?_;refine qr fun p24 hp24 => ?_;refine qR ?_;refine qv (rright_ev hqo) ?_;refine qg ?_;refine qe hK ?_
   cases hright : rightN q.l with
   | false =>
    rw [if_pos hright] at hX;refine qB ?_;refine qq ?_;refine qj fun K hK => ?_;refine EvO.go (d := .agg [.nul, .nul]) (st1 := _) rfl rfl rfl (put_T rfl _) ?_;refine qm ?_;refine qS hH at4 fun st hH => ?_;dsimp only [u2,u1,u3,u4,setMany,u5,u6,D.cells,Nat.reduceAdd,insC,nodC,intC,nlC,tC,trC] at hH;refine qm ?_;refine qm ?_;refine qe hK ?_;rw [<- hX];refine EvC.ret ⟨rx,_,hH.resCellTT rfl at4 rfl rfl rfl,rl hSb hH (hfz _ 1 r)⟩
   | true =>
    rw [if_neg (by rw [hright]; simp)] at hX;obtain ⟨htok,htf⟩ := tree_is hright;have hqn := hqo.nl;have hcn : (treeN q.l).cnt <= 1048576 := by rw [<- Tr.cnt_flat,htf]; exact hqn
    have hqv : ∀ n ∈ q.l,NdV n := fun n hn => ⟨hqw n hn,(hqo.i n hn).2.1,by have := Tr.kids_le _ htok n (by rw [htf]; exact hn); rw [htf] at this; omega⟩
    have htv : (treeN q.l).fa NdR := (Tr.fa_flat _).2 fun n hn => by rw [htf] at hn; exact ⟨(hqv n hn).1,(hqv n hn).2.1⟩
    have hrd := fun st => read_ev hqn hqv hqo.c _ (treeN q.l) (Nat.le_refl _) hcn htok st 0 (by rw [htf]; exact Seg.all _);have hnd : CoSpec (treeN q.l) := cnode_ev _ (treeN q.l) (Nat.le_refl _) hcn htok htv;refine qC ?_;refine EvC.skip ?_;refine qq ?_;refine qj fun K hK => ?_;refine qp (o := 1) ?_;refine ql hH at2 ?_;refine qm ?_;refine qg ?_;refine qp (o := 0) ?_;refine ql hH at0 ?_;refine EvO.dlen hH rfl (ev rfl) (by exact at1) rfl (put_T rfl _) ?_;simp only [List.length_map];refine qh (s := 1) (vs := [_]) hH fun k37 st hk37 hH => ?_;refine EvO.happend (s := 1) hH rfl (ev rfl) (ev rfl) (by exact at4) (by exact hH.rows (by exact at0)) rfl rfl rfl rfl rfl rfl rfl ⟨(Nat.le_of_ble_eq_true rfl),(Nat.le_of_ble_eq_true rfl)⟩ (fun _ => (put_T rfl _)) (by simp only [List.length_cons,List.length_nil,List.length_map] <;> omega) (by exact .inl hF) (fun x38 st hH => ?_);dsimp only [u2,u1,u3,u4,setMany,u5,u6,D.cells,Nat.reduceAdd,insC,nodC,intC,nlC,tC,trC] at hH;refine qp (o := 1) ?_;refine qT hH at3 (fun st hH => ?_) (hcs := hH.ocells at4);dsimp only [u2,u1,u3,u4,setMany,u5,u6,D.cells,Nat.reduceAdd,insC,nodC,intC,nlC,tC,trC] at hH;refine qe hK ?_;refine qq ?_;refine qj fun K hK => ?_;refine qm ?_;refine qm ?_;refine qr fun p43 hp43 => ?_;refine qR ?_;refine qv ((hrd _)) ?_;refine qm ?_;refine qg ?_;refine qg ?_;refine qa hH fun k8 st hk8 hH => ?_;refine qS hH at0 fun st hH => ?_;dsimp only [u2,u1,u3,u4,setMany,u5,u6,D.cells,Nat.reduceAdd,insC,nodC,intC,nlC,tC,trC] at hH;refine qm ?_;refine qe hK ?_
    have hH : Has s0.bs.length S st (.box k15 (.mem 0 false [cd, .bool false]) :: .deep dk cd 4 (code.map insC) :: .box k8 (.mem 0 false (tC (treeN q.l))) :: .box k6 (.mem 0 false [.nul,x38]) :: .lst x38 1 ((starts ++ [((code.length : Nat) : Int)]).map intC) :: .box k2 (.mem 0 false [.nul, .nul]) :: []) := by
     rw [List.map_append (f := intC)];exact (Has.rot [_] [_,_] (hH.erase 1))
    have hnl : (.nul = D.nul /\ ([] : List Rg) = []) \/ D.nul = .sl ((([] : List Rg).map rangeC).map (elD 2)) := .inl ⟨rfl,rfl⟩;refine qq ?_;refine qj fun K hK => ?_;refine qm ?_;refine EvO.go (d := .agg [.int .i64 4, .int .i64 0, .int .i64 0, .nul]) (st1 := _) rfl rfl rfl (put_T rfl _) ?_;obtain ⟨_,st,hev,rfl,cd,dk,code1,big1,hH,hO1⟩ := cput_ev (rs := []) hF hnl ⟨cd,dk,code,false,hH, .inl ⟨rfl,rfl,hcl⟩⟩;refine qv hev ?_;refine qe hK ?_;have hcl1 : (code ++ [mkI 4 0 0 []]).length = code.length + 1 := by simp
    refine qq ?_;refine qj fun K hK => ?_;refine qm ?_;refine EvO.hloadS (m := 8) (r := tC (treeN q.l)) hH rfl (ev rfl) at2 rfl rfl rfl (put_T rfl _) ?_;obtain ⟨_,st,hev,rfl,cd,dk,code2,big2,hH,hO2⟩ := hnd hF ⟨cd,dk,code1,big1,hH,hO1⟩;refine qv hev ?_;refine qe hK ?_;rw [hcl1] at hO2;refine qq ?_;refine qj fun K hK => ?_;refine qm ?_;refine EvO.go (d := .agg [.int .i64 4, .int .i64 1, .int .i64 0, .nul]) (st1 := _) rfl rfl rfl (put_T rfl _) ?_;obtain ⟨_,st,hev,rfl,cd,dk,code3,big3,hH,hO3⟩ := cput_ev (rs := []) hF hnl ⟨cd,dk,code2,big2,hH,hO2⟩;refine qv hev ?_;refine qe hK ?_;refine qq ?_;refine qj fun K hK => ?_;refine qm ?_;refine qm ?_;refine EvO.go (d := .agg [.int .i64 7, .int .i64 (r : Nat), .int .i64 0, .nul]) (st1 := _) rfl rfl rfl (put_T rfl _) ?_;obtain ⟨_,st,hev,rfl,cd,dk,code4,big4,hH,hO4⟩ := cput_ev (rs := []) hF hnl ⟨cd,dk,code3,big3,hH,hO3⟩;refine qv hev ?_;refine qe hK ?_
    have hrc : code ++ [mkI 4 0 0 []] ++ codeT (treeN q.l) (code.length + 1) ++ [mkI 4 1 0 []] ++ [mkI 7 (r : Nat) 0 []] = code ++ ruleC (treeN q.l) code.length r := by
     unfold ruleC; simp
    have hrl : (code ++ ruleC (treeN q.l) code.length r).length = code.length + (treeN q.l).sz + 3 := by rw [List.length_append,ruleC_len htok]; omega
    rw [hrc,hrl] at hO4;refine qq ?_;refine qj fun K hK => ?_;refine qm ?_;refine qg ?_;refine qp (o := 1) ?_;refine ql hH at0 ?_;refine qe hK ?_
    by_cases hb4 : big4 = false
    ·obtain ⟨h42,h43⟩ : code4 = code ++ ruleC (treeN q.l) code.length r /\ code.length + (treeN q.l).sz + 3 <= 400 := by
      rcases hO4 with h | h
      ·exact h.2
      ·rw [hb4] at h; cases h.1
     rw [if_neg (by omega)] at hX;rw [hb4,h42] at hH;refine qE rfl (by rw [hb4]) ?_;refine EvC.skip ?_;refine qj fun K hK => ?_;refine qm ?_;refine qA ?_;refine qm ?_;refine qe hK ?_;have hH := hH.erase 2;exact ⟨mm - 1,by omega,⟨r + 1,cd,x38,dk,code ++ ruleC (treeN q.l) code.length r,starts ++ [((code.length : Nat) : Int)],rfl,hH,by omega,hX,by rw [hrl]; omega,by rw [List.length_append]; simp only [List.length_cons,List.length_nil]; omega⟩⟩
    ·obtain ⟨h41,h42,h43⟩ : big4 = true /\ code4.length = 400 /\ 400 < code.length + (treeN q.l).sz + 3 := by
      rcases hO4 with h | h
      ·exact absurd h.1 hb4
      ·exact h
     rw [if_pos (by omega)] at hX;refine qD rfl (by rw [h41]) ?_;refine qq ?_;refine qj fun K hK => ?_;refine EvO.go (d := .agg [.nul, .nul]) (st1 := _) rfl rfl rfl (put_T rfl _) ?_;refine qm ?_;refine qS hH at5 fun st hH => ?_;dsimp only [u2,u1,u3,u4,setMany,u5,u6,D.cells,Nat.reduceAdd,insC,nodC,intC,nlC,tC,trC] at hH;refine qm ?_;refine qm ?_;refine qe hK ?_;rw [<- hX];refine EvC.ret ⟨rx,_,hH.resCellTT rfl at5 rfl rfl rfl,rl hSb hH (hfz _ 12 r)⟩
  ·refine qE rfl (by simp; omega) ?_;refine EvC.exit ?_;rw [List.drop_of_length_le (by omega),List.map_nil,compS_nil] at hX;refine qq ?_;refine qj fun K hK => ?_;refine qm ?_;refine qg ?_;refine qp (o := 0) ?_;refine ql hH at0 ?_;refine qp (o := 0) ?_;refine EvO.hstore hH rfl (ev rfl) (ev rfl) (by exact hH.dcells (by exact at1)) (by exact rfl) (by exact at2) (by exact Nat.le_of_ble_eq_true rfl) (by exact .inl hF) (fun st hH => ?_);dsimp only [u2,u1,u3,u4,setMany,u5,u6,D.cells,Nat.reduceAdd,insC,nodC,intC,nlC,tC,trC] at hH;refine qe hK ?_;refine qq ?_;refine qj fun K hK => ?_;refine EvO.hloadS (m := 2) hH rfl (ev rfl) (by exact at2) (by dsimp only [List.drop_succ_cons,List.drop_zero,List.take_succ_cons,List.take_zero,insC,nodC,intC,nlC,tC,trC] <;> rfl) rfl rfl (put_T rfl _) ?_;refine qS hH at4 fun st hH => ?_;dsimp only [u2,u1,u3,u4,setMany,u5,u6,D.cells,Nat.reduceAdd,insC,nodC,intC,nlC,tC,trC] at hH;refine qm ?_;refine qm ?_;refine qe hK ?_;rw [<- hX];have h1 := hH.freezeDp at1 (n := 13) (by decide);have h2 := hH.freezeL at3 (int_plain _) (n := 14) (by decide)
   have h4 : freezeD st s0.bs.length false 15 (.agg [cd,sd]) = some (pgV code starts).d := by
    show (mapO (freezeD st s0.bs.length false 14) [cd,sd]).map D.agg = _;simp only [mapO,h1,h2,Option.map_some]; rfl
   have h3 : freezeD st s0.bs.length false 16 (tupD [.agg [cd,sd], .int .i64 0, .int .i64 0]) = some (compD ⟨code,starts,0,0⟩) := by
    show (mapO (freezeD st s0.bs.length false 15) [.agg [cd,sd], .int .i64 0, .int .i64 0]).map D.tup = _;simp only [mapO,h4]; rfl
   exact EvC.ret ⟨rx,_,hH.resCellTT rfl at4 rfl rfl rfl,rl hSb hH h3⟩
end Go.Proofs.Ytnleclohocdkaaa
