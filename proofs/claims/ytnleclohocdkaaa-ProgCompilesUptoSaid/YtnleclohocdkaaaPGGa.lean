/- own -/
import Derived.Test.YtnleclohocdkaaaPGJj
import Derived.Test.YtnleclohocdkaaaPGCa
import Derived.Test.YtnleclohocdkaaaPPx
import Derived.Test.YtnleclohocdkaaaPM2
import Derived.KernelRfl
import Derived.Test.YtnleclohocdkaaaPDgp
import Derived.Test.YtnleclohocdkaaaPGQe
set_option maxRecDepth 100000
set_option maxHeartbeats 4000000
set_option linter.unusedSimpArgs false
set_option linter.unusedVariables false
set_option linter.unusedSectionVars false
namespace Go.Proofs.Ytnleclohocdkaaa
open Go.V Go
noncomputable def shapeR (n : Nod) : Int × Bool :=
  if n.op = 1 \/ n.op = 7 \/ n.op = 8 then (0,(n.kids == 0) && plainN n)
  else if n.op = 2 then (0,rightS n.rs && ((n.kids == 0) && plainN n))
  else if n.op = 3 \/ n.op = 4 then (n.kids,decide (n.kids >= 2) && plainN n)
  else if n.op = 5 then (1,((((decide (0 <= n.mn) && decide (n.mn <= 30)) && decide (n.mx <= 30)) && decide (-1 <= n.mx)) && (decide (n.mx < 0) || decide (n.mn <= n.mx))) && ((n.kids == 1) && plainN n))
  else if n.op = 6 then (1,(decide (1 <= n.cap) && decide (n.cap <= 4)) && ((n.kids == 1) && plainN n))
  else (0,false)
def kidsR (h : Nat -> Option Nat) : Nat -> Nat -> Option Nat
  | 0,at_ => some at_
  | k + 1,at_ => match h at_ with
    | some j => kidsR h k j
    | none => none
noncomputable def walkR (l : List Nod) : Nat -> Nat -> Option Nat
  | 0,_ => none
  | f + 1,at_ => match l[at_]? with
    | none => none
    | some n => if (shapeR n).2 = true then kidsR (walkR l f) (shapeR n).1.toNat (at_ + 1) else none
def capsR : List Nod -> Nat -> Option Nat
  | [],g => some g
  | n :: l,g => if n.op = 6 then (if n.cap = ((g + 1 : Nat) : Int) then capsR l (g + 1) else none) else capsR l g
theorem capsR_app : ∀ (a b : List Nod) (g : Nat),capsR (a ++ b) g = (capsR a g).bind (capsR b)
  | [],b,g => rfl
  | n :: a,b,g => by
    rw [List.cons_append]; unfold capsR
    split
    · split
      · exact capsR_app a b _
      · rfl
    · exact capsR_app a b _
theorem shape_NR {n : Nod} {g : Nat} : (shapeN n (g : Nat)).2 = true ↔ (shapeR n).2 = true /\ (n.op = 6 -> n.cap = ((g + 1 : Nat) : Int)) := by
  unfold shapeN shapeR
  cases hp : plainN n with
  | false =>
    rw [if_pos rfl]
    simp only [Bool.and_false]
    constructor
    · intro h; cases h
    · rintro ⟨h,_⟩
      (repeat' split at h) <;> simp at h
  | true =>
    rw [if_neg (by simp)]
    simp only [Bool.and_true]
    by_cases h1 : n.op = 1 \/ n.op = 7 \/ n.op = 8
    · rw [if_pos h1,if_pos h1]; exact ⟨fun h => ⟨h,fun h6 => by omega⟩,fun h => h.1⟩
    rw [if_neg h1,if_neg h1]
    by_cases h2 : n.op = 2
    · rw [if_pos h2,if_pos h2]
      simp only [Bool.and_eq_true,beq_iff_eq]
      exact ⟨fun h => ⟨⟨h.2,h.1⟩,fun h6 => by omega⟩,fun h => ⟨h.1.2,h.1.1⟩⟩
    rw [if_neg h2,if_neg h2]
    by_cases h3 : n.op = 3 \/ n.op = 4
    · rw [if_pos h3,if_pos h3]; exact ⟨fun h => ⟨h,fun h6 => by omega⟩,fun h => h.1⟩
    rw [if_neg h3,if_neg h3]
    by_cases h5 : n.op = 5
    · rw [if_pos h5,if_pos h5]
      simp only [Bool.and_eq_true,Bool.or_eq_true,beq_iff_eq,decide_eq_true_eq]
      constructor
      · intro h; refine ⟨⟨⟨⟨⟨⟨?_,?_⟩,?_⟩,?_⟩,?_⟩,?_⟩,fun h6 => by omega⟩ <;> omega
      · rintro ⟨h,_⟩; refine ⟨⟨⟨?_,?_⟩,?_⟩,?_⟩ <;> omega
    rw [if_neg h5,if_neg h5]
    by_cases h6 : n.op = 6
    · rw [if_pos h6,if_pos h6]
      simp only [Bool.and_eq_true,beq_iff_eq,decide_eq_true_eq]
      constructor
      · intro h; exact ⟨⟨⟨by omega,h.2⟩,h.1.1⟩,fun _ => by omega⟩
      · rintro ⟨h,h7⟩; have := h7 h6; exact ⟨⟨h.2,by omega⟩,h.1.2⟩
    rw [if_neg h6,if_neg h6]
    exact ⟨fun h => (by cases h),fun h => (by cases h.1)⟩
theorem shape_kids {n : Nod} {g : Nat} (h : (shapeN n (g : Nat)).2 = true) : (shapeN n (g : Nat)).1 = (shapeR n).1 := by
  unfold shapeN at h ⊢
  unfold shapeR
  cases hp : plainN n with
  | false => rw [hp,if_pos rfl] at h; cases h
  | true =>
    rw [if_neg (by simp)]
    repeat' split
    all_goals rfl
theorem seg_cons {l : List Nod} {a j : Nat} {n : Nod} (h : l[a]? = some n) (hj : a < j) : (l.drop a).take (j - a) = n :: (l.drop (a + 1)).take (j - (a + 1)) := by
  have hlt := lt_get h
  have he : l.drop a = n :: l.drop (a + 1) := by
    rw [List.drop_eq_getElem_cons hlt]; congr 1
    rw [List.getElem?_eq_getElem hlt] at h
    exact Option.some.inj h
  rw [he,show j - a = (j - (a + 1)) + 1 by omega,List.take_succ_cons]
theorem seg_app {l : List Nod} {a b c : Nat} (h1 : a <= b) (h2 : b <= c) : (l.drop a).take (c - a) = (l.drop a).take (b - a) ++ (l.drop b).take (c - b) := by
  have e1 : c - a = (b - a) + (c - b) := by omega
  have e2 : l.drop b = (l.drop a).drop (b - a) := by rw [List.drop_drop]; congr 1; omega
  rw [e1,List.take_add,e2]
theorem kidsR_le {h : Nat -> Option Nat} (ih : ∀ a j,h a = some j -> a <= j) : ∀ k a j,kidsR h k a = some j -> a <= j
  | 0,a,j,e => by simp only [kidsR,Option.some.injEq] at e; omega
  | k + 1,a,j,e => by
    unfold kidsR at e
    cases hq : h a with
    | none => rw [hq] at e; cases e
    | some q => rw [hq] at e; have := ih _ _ hq; have := kidsR_le ih k _ _ e; omega
theorem walkR_lt {l : List Nod} : ∀ f a j,walkR l f a = some j -> a < j
  | 0,_,_,e => by cases e
  | f + 1,a,j,e => by
    unfold walkR at e
    cases hn : l[a]? with
    | none => rw [hn] at e; cases e
    | some n =>
      rw [hn] at e; simp only at e
      split at e
      · have := kidsR_le (fun a j h => Nat.le_of_lt (walkR_lt f a j h)) _ _ _ e; omega
      · cases e
theorem kids_fwd {l : List Nod} {h : Nat -> Nat -> Option (Nat × Nat)} {h' : Nat -> Option Nat} (ih : ∀ a g r,h a g = some r -> h' a = some r.1 /\ a <= r.1 /\ capsR ((l.drop a).take (r.1 - a)) g = some r.2) :
    ∀ k a g r,kidsS h k a g = some r -> kidsR h' k a = some r.1 /\ a <= r.1 /\ capsR ((l.drop a).take (r.1 - a)) g = some r.2
  | 0,a,g,r,e => by
    simp only [kidsS,Option.some.injEq] at e
    subst e
    exact ⟨rfl,Nat.le_refl _,by simp [capsR]⟩
  | k + 1,a,g,r,e => by
    unfold kidsS at e
    cases hq : h a g with
    | none => rw [hq] at e; cases e
    | some q =>
      rw [hq] at e
      obtain ⟨t1,t2,t3⟩ := ih _ _ _ hq
      obtain ⟨u1,u2,u3⟩ := kids_fwd ih k _ _ _ e
      refine ⟨by unfold kidsR; rw [t1]; exact u1,by omega,?_⟩
      rw [seg_app t2 u2,capsR_app,t3]; exact u3
theorem one_fwd {l : List Nod} : ∀ f a g r,oneW l f a g = some r -> walkR l f a = some r.1 /\ a <= r.1 /\ capsR ((l.drop a).take (r.1 - a)) g = some r.2
  | 0,_,_,_,e => by simp [oneW] at e
  | f + 1,a,g,r,e => by
    unfold oneW at e
    cases hn : l[a]? with
    | none => rw [hn] at e; cases e
    | some n =>
      rw [hn] at e
      simp only at e
      split at e
      · rename_i hs
        rw [shape_kids hs] at e
        obtain ⟨u1,u2,u3⟩ := kids_fwd (one_fwd f) _ _ _ _ e
        obtain ⟨v1,v2⟩ := shape_NR.1 hs
        refine ⟨by unfold walkR; rw [hn]; simp only; rw [if_pos v1]; exact u1,by omega,?_⟩
        rw [seg_cons hn (by omega)]
        unfold capsR
        split
        · rename_i h6; rw [if_pos (v2 h6)]; rw [if_pos h6] at u3; exact u3
        · rename_i h6; rw [if_neg h6] at u3; exact u3
      · cases e
theorem kids_bwd {l : List Nod} {h : Nat -> Nat -> Option (Nat × Nat)} {h' : Nat -> Option Nat} (hle : ∀ a j,h' a = some j -> a <= j) (ih : ∀ a g j g',h' a = some j -> capsR ((l.drop a).take (j - a)) g = some g' -> h a g = some (j,g')) :
    ∀ k a g j g',kidsR h' k a = some j -> capsR ((l.drop a).take (j - a)) g = some g' -> kidsS h k a g = some (j,g')
  | 0,a,g,j,g',e,hc => by
    simp only [kidsR,Option.some.injEq] at e
    subst e
    simp only [Nat.sub_self,List.take_zero,capsR,Option.some.injEq] at hc
    subst hc; rfl
  | k + 1,a,g,j,g',e,hc => by
    unfold kidsR at e
    cases hq : h' a with
    | none => rw [hq] at e; cases e
    | some q =>
      rw [hq] at e
      have t2 := hle _ _ hq
      have u2 := kidsR_le hle _ _ _ e
      rw [seg_app t2 u2,capsR_app] at hc
      cases hq2 : capsR ((l.drop a).take (q - a)) g with
      | none => rw [hq2] at hc; cases hc
      | some g2 =>
        rw [hq2] at hc
        have hc : capsR ((l.drop q).take (j - q)) g2 = some g' := hc
        unfold kidsS
        rw [ih _ _ _ _ hq hq2]
        exact kids_bwd hle ih k _ _ _ _ e hc
theorem one_bwd {l : List Nod} : ∀ f a g j g',walkR l f a = some j -> capsR ((l.drop a).take (j - a)) g = some g' -> oneW l f a g = some (j,g')
  | 0,_,_,_,_,e,_ => by cases e
  | f + 1,a,g,j,g',e,hc => by
    have hlt := walkR_lt _ _ _ e
    unfold walkR at e
    cases hn : l[a]? with
    | none => rw [hn] at e; cases e
    | some n =>
      rw [hn] at e
      simp only at e
      split at e
      · rename_i hs
        rw [seg_cons hn hlt] at hc
        unfold capsR at hc
        have hcap : n.op = 6 -> n.cap = ((g + 1 : Nat) : Int) := fun h6 => by
          rw [if_pos h6] at hc
          by_cases h7 : n.cap = ((g + 1 : Nat) : Int)
          · exact h7
          · rw [if_neg h7] at hc; cases hc
        have hs2 := shape_NR.2 ⟨hs,hcap⟩
        have hc : capsR ((l.drop (a + 1)).take (j - (a + 1))) (if n.op = 6 then g + 1 else g) = some g' := by
          by_cases h6 : n.op = 6
          · rw [if_pos h6,if_pos (hcap h6)] at hc; rw [if_pos h6]; exact hc
          · rw [if_neg h6] at hc; rw [if_neg h6]; exact hc
        unfold oneW
        rw [hn]; simp only
        rw [if_pos hs2,shape_kids hs2]
        exact kids_bwd (fun a j h => Nat.le_of_lt (walkR_lt f a j h)) (one_bwd f) _ _ _ _ _ e hc
      · cases e
noncomputable def rightR (l : List Nod) : Bool := ((decide (1 <= l.length) && decide (l.length <= 480)) && decide (walkR l 241 0 = some l.length)) && (capsR l 0).isSome
theorem rightR_eq (l : List Nod) : rightR l = rightN l := by
  unfold rightR rightN
  rw [Bool.and_assoc]
  congr 1
  have hfull : (l.drop 0).take (l.length - 0) = l := by simp
  cases h : oneW l 241 0 0 with
  | some r =>
    obtain ⟨h1,h2,h3⟩ := one_fwd _ _ _ _ h
    simp only
    rw [h1]
    by_cases h4 : r.1 = l.length
    · rw [h4] at h3
      rw [hfull] at h3
      rw [h3]; simp [h4]
    · simp [h4]
  | none =>
    simp only
    by_cases h1 : walkR l 241 0 = some l.length
    · cases h2 : capsR l 0 with
      | none => simp
      | some g =>
        have := one_bwd 241 0 0 l.length g h1 (by rw [hfull]; exact h2)
        rw [h] at this; cases this
    · simp [h1]
def ixF_Gb (fr : Go.V.Fr) (k : Nat) : Go.V.D := Go.V.nth .junk fr.loc k
def optD : Option Nat -> Int
 | some j => ((j : Nat) : Int)
 | none => -1
theorem kidsR_top {h : Nat -> Option Nat} {L : Nat} (ih : ∀ a j,h a = some j -> j <= L) : ∀ k a j,a <= L -> kidsR h k a = some j -> j <= L
 | 0,a,j,ha,e => by simp only [kidsR,Option.some.injEq] at e; omega
 | k + 1,a,j,ha,e => by
  unfold kidsR at e
  cases hq : h a with
  | none => rw [hq] at e; cases e
  | some q => rw [hq] at e; exact kidsR_top ih k _ _ (ih _ _ hq) e
theorem walkR_top {l : List Nod} : ∀ f a j,walkR l f a = some j -> j <= l.length
 | 0,_,_,e => by cases e
 | f + 1,a,j,e => by
  unfold walkR at e
  cases hn : l[a]? with
  | none => rw [hn] at e; cases e
  | some n =>
   have := lt_get hn;rw [hn] at e; simp only at e
   split at e
   ·exact kidsR_top (walkR_top f) _ _ _ (by omega) e
   ·cases e
theorem r10walk_ev {l : List Nod} {d : D} (hl : l.length <= 1048576) (hi : ∀ n ∈ l,n.ok) (hd : SlD d 7 (l.map nodC)) : ∀ (f : Nat) {s0 : St} {at_ : Nat},f <= 241 -> at_ <= 1048577 -> Ev pv 105 [d, .int .i64 (at_ : Nat), .int .i64 ((241 - f : Nat) : Int)] s0 (.int .i64 (optD (walkR l f at_))) s0 := by
 intro f
 induction f with
 | zero =>
  intro s0 at_ hf ha;refine Ev.mk1 rfl fi105 rfl rfl rfl ?_;dsimp only [u3,u4,List.length,Nat.reduceSub,Nat.reduceAdd,w1,w2];obtain ⟨hSb,hF,hH⟩ := ri s0;generalize enterSt .ro s0 = S at *;have hc := hd.arg s0.bs.length S;refine qq ?_;refine qj fun K hK => ?_;refine qm ?_;refine qe hK ?_;refine qq ?_;refine qq ?_;refine EvC.cutL 18 (.bool (decide ((at_ : Int) >= (l.length : Nat)) || decide (((241 - 0 : Nat) : Int) > 240))) [11,12,13,14,15,16,17] ?_ (fun ff tmp => ?_)
  ·refine qm ?_;refine qm ?_;refine qn ?_;simp only [List.length_map];refine qg ?_;refine qm ?_;refine EvO.two 15 rfl (fun hg4 => ?_) (fun hg4 => ?_)
   ·refine qs ?_ (hg := wn hg4);refine qs ?_ (hg := wn hg4);refine qt hg4 ?_;refine EvO.nil (leafL ?_);dsimp only [setW,List.foldl,nth,u2,u1];dsimp only [Fr.putO,Fr.put,Fr.clean,Fr.ev,Fr.get,nth,V.look,u1,u2,v1,v2,v3,v4,v5,v6,v7,List.length,u3,u4,Nat.reduceSub,Nat.reduceAdd,List.map]
    all_goals (simp [hg4]; done)
   ·refine qm ?_ (hg := wi hg4);refine qg ?_ (hg := wi hg4);refine qu hg4 ?_;refine EvO.nil (leafL ?_);dsimp only [setW,List.foldl,nth,u2,u1];dsimp only [Fr.putO,Fr.put,Fr.clean,Fr.ev,Fr.get,nth,V.look,u1,u2,v1,v2,v3,v4,v5,v6,v7,List.length,u3,u4,Nat.reduceSub,Nat.reduceAdd,List.map]
    all_goals (simp [hg4]; done)
  dsimp only [setW,List.foldl,nth,u2,u1];generalize ff 11 = e11;generalize ff 12 = e12;generalize ff 13 = e13;generalize ff 14 = e14;generalize ff 15 = e15;generalize ff 16 = e16;generalize ff 17 = e17;dsimp only [Fr.putO,Fr.put,Fr.clean,Fr.ev,Fr.get,nth,V.look,u1,u2,v1,v2,v3,v4,v5,v6,v7,List.length,u3,u4,Nat.reduceSub,Nat.reduceAdd,List.map];have hT : (decide ((at_ : Int) >= (l.length : Nat)) || decide (((241 - 0 : Nat) : Int) > 240)) = true := by simp
  rw [hT];refine qB ?_;refine qq ?_;refine qj fun K hK => ?_;refine qm ?_;refine qe hK ?_;refine EvC.ret ⟨rx,_,rfl,rl hSb hH (rfl)⟩
 | succ f ih =>
  intro s0 at_ hf ha
  suffices hg : ∃ d',Ev pv 105 [d, .int .i64 (at_ : Nat), .int .i64 ((241 - (f + 1) : Nat) : Int)] s0 d' s0 /\ d' = .int .i64 (optD (walkR l (f + 1) at_)) by
   obtain ⟨_,h1,rfl⟩ := hg;exact h1
  refine Ev.mkR rfl fi105 rfl rfl rfl ?_;dsimp only [u3,u4,List.length,Nat.reduceSub,Nat.reduceAdd,w1,w2];obtain ⟨hSb,hF,hH⟩ := ri s0;generalize enterSt .ro s0 = S at *;have hc := hd.arg s0.bs.length S
  obtain ⟨dp,hdp⟩ : ∃ dp,241 - (f + 1) = dp := ⟨_,rfl⟩
  rw [hdp]
  obtain ⟨R,hR⟩ : ∃ R,walkR l (f + 1) at_ = R := ⟨_,rfl⟩
  rw [hR];unfold walkR at hR;refine qq ?_;refine qj fun K hK => ?_;refine qm ?_;refine qe hK ?_;refine qq ?_;refine qq ?_;refine EvC.cutL 18 (.bool (decide ((at_ : Int) >= (l.length : Nat)) || decide (((dp : Nat) : Int) > 240))) [11,12,13,14,15,16,17] ?_ (fun ff tmp => ?_)
  ·refine qm ?_;refine qm ?_;refine qn ?_;simp only [List.length_map];refine qg ?_;refine qm ?_;refine EvO.two 15 rfl (fun hg4 => ?_) (fun hg4 => ?_)
   ·refine qs ?_ (hg := wn hg4);refine qs ?_ (hg := wn hg4);refine qt hg4 ?_;refine EvO.nil (leafL ?_);dsimp only [setW,List.foldl,nth,u2,u1];dsimp only [Fr.putO,Fr.put,Fr.clean,Fr.ev,Fr.get,nth,V.look,u1,u2,v1,v2,v3,v4,v5,v6,v7,List.length,u3,u4,Nat.reduceSub,Nat.reduceAdd,List.map]
    all_goals (simp_all; done)
   ·refine qm ?_ (hg := wi hg4);refine qg ?_ (hg := wi hg4);refine qu hg4 ?_;refine EvO.nil (leafL ?_);dsimp only [setW,List.foldl,nth,u2,u1];dsimp only [Fr.putO,Fr.put,Fr.clean,Fr.ev,Fr.get,nth,V.look,u1,u2,v1,v2,v3,v4,v5,v6,v7,List.length,u3,u4,Nat.reduceSub,Nat.reduceAdd,List.map]
    all_goals (simp_all; omega)
  dsimp only [setW,List.foldl,nth,u2,u1];generalize ff 11 = e11;generalize ff 12 = e12;generalize ff 13 = e13;generalize ff 14 = e14;generalize ff 15 = e15;generalize ff 16 = e16;generalize ff 17 = e17
  by_cases hlt : at_ < l.length
  ·obtain ⟨n,hn⟩ : ∃ n,l[at_]? = some n := ⟨l[at_]'hlt,List.getElem?_eq_getElem _⟩
   rw [hn] at hR;simp only at hR;have hnn := hi n (List.mem_of_getElem? hn);have hrd := hnn.1.arg s0.bs.length S;have hrl := hnn.2.1;have hr1 := nod_get hn;have hrf := nod_refs hnn
   have hF0 : (decide ((at_ : Int) >= (l.length : Nat)) || decide (((dp : Nat) : Int) > 240)) = false := by
    rw [decide_eq_false (by omega),decide_eq_false (by omega)]; rfl
   rw [hF0];refine qC ?_;refine EvC.skip ?_;refine qq ?_;refine qj fun K hK => ?_;refine qm ?_;refine qm ?_;refine qr fun p21 hp21 => ?_;refine EvO.rloadS rfl (ev rfl) (by assumption) rfl (by dsimp only [Fr.put,u1,u2] <;> rfl) ?_;refine qa hH fun k7 st hk7 hH => ?_;refine qS hH at0 fun st hH => ?_;dsimp only [u2,u1,u3,u4,setMany,u5,u6,D.cells,Nat.reduceAdd,nodC] at hH;refine qe hK ?_;refine qq ?_;refine qj fun K hK => ?_;refine qp (o := 0) ?_;refine ql hH at0 ?_;refine qp (o := 6) ?_;refine ql hH at0 ?_;refine EvO.go (d := .agg [.int .i64 n.op, .nul, .int .i64 0, .int .i64 0, .bool false, .int .i64 0, .int .i64 n.kids]) (st1 := _) rfl rfl rfl (by dsimp only [Fr.put,u1,u2] <;> rfl) ?_;refine qa hH fun k8 st hk8 hH => ?_;refine qS hH at0 fun st hH => ?_;dsimp only [u2,u1,u3,u4,setMany,u5,u6,D.cells,Nat.reduceAdd,nodC] at hH;refine qe hK ?_;refine qq ?_;refine qj fun K hK => ?_;refine qm ?_;refine qe hK ?_;refine qq ?_;refine qq ?_;refine qj fun K hK => ?_;refine qp (o := 0) ?_;refine ql hH at1 ?_;refine qe hK ?_;have hno : (shapeR n).2 = false -> R = none := fun h => by rw [<- hR,if_neg (by rw [h]; simp)]
   refine EvC.merge (fun fr st => ∃ (kd : Int) (bd : D) (brs : List Rg) (bmn bmx : Int) (blz : Bool) (bcap : Int) (tmp : List (Nat × D)),fr = ⟨30, [d, .int .i64 (at_ : Nat), .int .i64 (dp : Nat),ixF_Gb fr 3,ixF_Gb fr 4,ixF_Gb fr 5,ixF_Gb fr 6, .ptr k7 0 0, .ptr k8 0 0, .int .i64 kd,ixF_Gb fr 10,ixF_Gb fr 11,ixF_Gb fr 12,ixF_Gb fr 13,ixF_Gb fr 14,ixF_Gb fr 15,ixF_Gb fr 16,ixF_Gb fr 17,ixF_Gb fr 18,ixF_Gb fr 19,ixF_Gb fr 20,ixF_Gb fr 21,ixF_Gb fr 22,ixF_Gb fr 23,ixF_Gb fr 24,ixF_Gb fr 25,ixF_Gb fr 26,ixF_Gb fr 27,ixF_Gb fr 28,ixF_Gb fr 29],tmp⟩ /\ Has s0.bs.length S st [.box k8 (.mem 0 false [.int .i64 n.op,bd, .int .i64 bmn, .int .i64 bmx, .bool blz, .int .i64 bcap, .int .i64 n.kids]), .box k7 (.mem 0 false (nodC n))] /\ (SlD bd 2 (brs.map rangeC)) /\ (brs.length <= 1048576) /\ (plainN n = (((((n.mn == bmn) && (n.mx == bmx)) && (n.lz == blz)) && (n.cap == bcap)) && (((n.rs.length : Nat) : Int) == ((brs.length : Nat) : Int)))) /\ (shapeR n = (kd,(n.kids == kd) && plainN n))) ?_ ?_
   ·have hnil : SlD .nul 2 (([] : List Rg).map rangeC) := .inl ⟨rfl,rfl⟩
    have hpf1 : n.op = 1 -> plainN n = (((((n.mn == 0) && (n.mx == 0)) && (n.lz == false)) && (n.cap == 0)) && (((n.rs.length : Nat) : Int) == (((([] : List Rg).length : Nat)) : Int))) := by
     intro h;unfold plainN
     first
      | (simp [h]; done)
      | (simp [h]; cases n.lz <;> simp [Bool.and_comm,Bool.and_assoc,Bool.and_left_comm])
    have hpf2 : n.op = 2 -> plainN n = (((((n.mn == 0) && (n.mx == 0)) && (n.lz == false)) && (n.cap == 0)) && (((n.rs.length : Nat) : Int) == ((n.rs.length : Nat) : Int))) := by
     intro h;unfold plainN
     first
      | (simp [h]; done)
      | (simp [h]; cases n.lz <;> simp [Bool.and_comm,Bool.and_assoc,Bool.and_left_comm])
    have hpf6 : n.op = 6 -> plainN n = (((((n.mn == 0) && (n.mx == 0)) && (n.lz == false)) && (n.cap == n.cap)) && (((n.rs.length : Nat) : Int) == (((([] : List Rg).length : Nat)) : Int))) := by
     intro h;unfold plainN
     first
      | (simp [h]; done)
      | (simp [h]; cases n.lz <;> simp [Bool.and_comm,Bool.and_assoc,Bool.and_left_comm])
    have hpf7 : n.op = 7 -> plainN n = (((((n.mn == 0) && (n.mx == 0)) && (n.lz == false)) && (n.cap == 0)) && (((n.rs.length : Nat) : Int) == (((([] : List Rg).length : Nat)) : Int))) := by
     intro h;unfold plainN
     first
      | (simp [h]; done)
      | (simp [h]; cases n.lz <;> simp [Bool.and_comm,Bool.and_assoc,Bool.and_left_comm])
    have hpf8 : n.op = 8 -> plainN n = (((((n.mn == 0) && (n.mx == 0)) && (n.lz == false)) && (n.cap == 0)) && (((n.rs.length : Nat) : Int) == (((([] : List Rg).length : Nat)) : Int))) := by
     intro h;unfold plainN
     first
      | (simp [h]; done)
      | (simp [h]; cases n.lz <;> simp [Bool.and_comm,Bool.and_assoc,Bool.and_left_comm])
    refine EvC.block ?_;refine qq ?_;refine qq ?_;refine qj fun K hK => ?_;refine qg ?_;refine qm ?_;refine qe hK ?_
    by_cases q1 : n.op = 1
    ·refine qD rfl (by simp [q1]) ?_;refine EvC.skip ?_;refine qD rfl (by simp [q1]) ?_;refine EvC.skip ?_;exact ⟨0, .nul, [],0,0,false,0,_,rfl,hH,hnil,by simp,(hpf1 q1),(by unfold shapeR; rw [if_pos (.inl q1)])⟩
    refine qE rfl (by simp [q1]) ?_;refine qq ?_;refine qj fun K hK => ?_;refine qg ?_;refine qm ?_;refine qe hK ?_
    by_cases q7 : n.op = 7
    ·refine qD rfl (by simp [q7]) ?_;refine EvC.skip ?_;refine qD rfl (by simp [q7]) ?_;refine EvC.skip ?_;exact ⟨0, .nul, [],0,0,false,0,_,rfl,hH,hnil,by simp,(hpf7 q7),(by unfold shapeR; rw [if_pos (.inr (.inl q7))])⟩
    refine qE rfl (by simp [q7]) ?_;refine qj fun K hK => ?_;refine qg ?_;refine qm ?_;refine qe hK ?_
    by_cases q8 : n.op = 8
    ·refine qD rfl (by simp [q8]) ?_;refine EvC.skip ?_;exact ⟨0, .nul, [],0,0,false,0,_,rfl,hH,hnil,by simp,(hpf8 q8),(by unfold shapeR; rw [if_pos (.inr (.inr q8))])⟩
    refine qE rfl (by simp [q8]) ?_;have hs1 : ¬ (n.op = 1 \/ n.op = 7 \/ n.op = 8) := by omega
    refine qq ?_;refine qj fun K hK => ?_;refine qg ?_;refine qm ?_;refine qe hK ?_;refine EvC.cond (by rfl) (fun q2 => ?_) (fun q2 => ?_) <;> try simp only [beq_iff_eq,beq_eq_false_iff_ne,ne_eq] at q2
    ·have hns : SlD n.rd 2 (n.rs.map rangeC) := hnn.1;refine qq ?_;refine qj fun K hK => ?_;refine qp (o := 1) ?_;refine ql hH at1 ?_;refine qp (o := 1) ?_;refine qT hH at0 fun st hH => ?_;dsimp only [u2,u1,u3,u4,setMany,u5,u6,D.cells,Nat.reduceAdd,nodC] at hH;refine qe hK ?_;refine qq ?_;refine qj fun K hK => ?_;refine qp (o := 1) ?_;refine ql hH at1 ?_;refine qv (refRight_ev (hrd.rows hH) hrl) ?_;refine qg ?_;refine qe hK ?_
     cases hrs : rightS n.rs with
     | false =>
      refine qB ?_;refine qq ?_;refine qj fun K hK => ?_;refine qm ?_;refine qe hK ?_;refine EvC.ret ⟨rx,_,_,rfl,rl hSb hH (rfl),?_⟩;rw [hno (by unfold shapeR; rw [if_neg hs1,if_pos q2,hrs]; rfl)]
      rfl
     | true =>
      refine qC ?_;refine EvC.skip ?_;exact ⟨0,n.rd,n.rs,0,0,false,0,_,rfl,hH,hnn.1,hrl,(hpf2 q2),(by unfold shapeR; rw [if_neg hs1,if_pos q2,hrs,Bool.true_and])⟩
    have hpl34 : (n.op = 3 \/ n.op = 4) -> plainN n = (((((n.mn == 0) && (n.mx == 0)) && (n.lz == false)) && (n.cap == 0)) && (((n.rs.length : Nat) : Int) == (((([] : List Rg).length : Nat)) : Int))) := by
     intro h;unfold plainN
     rcases h with h | h <;> simp [h] <;> cases n.lz <;> simp [Bool.and_comm,Bool.and_assoc,Bool.and_left_comm]
    have hsh34 : (n.op = 3 \/ n.op = 4) -> shapeR n = (n.kids,decide (n.kids >= 2) && plainN n) := fun h => by unfold shapeR; rw [if_neg hs1,if_neg q2,if_pos h]
    refine qq ?_;refine qq ?_;refine qj fun K hK => ?_;refine qg ?_;refine qm ?_;refine qe hK ?_
    by_cases q3 : n.op = 3
    ·refine qD rfl (by simp [q3]) ?_;refine EvC.skip ?_;refine qD rfl (by simp [q3]) ?_;refine qq ?_;refine qj fun K hK => ?_;refine qp (o := 6) ?_;refine ql hH at1 ?_;refine qm ?_;refine qe hK ?_;refine qq ?_;refine qj fun K hK => ?_;refine qm ?_;refine qg ?_;refine qe hK ?_;refine EvC.cond (by rfl) (fun hk2 => ?_) (fun hk2 => ?_) <;> try simp only [decide_eq_true_eq,decide_eq_false_iff_not] at hk2
     ·refine qq ?_;refine qj fun K hK => ?_;refine qm ?_;refine qe hK ?_;refine EvC.ret ⟨rx,_,_,rfl,rl hSb hH (rfl),?_⟩;rw [hno (by rw [hsh34 (.inl q3)]; simp only; rw [decide_eq_false (by omega)]; rfl)]
      rfl
     ·refine EvC.skip ?_;exact ⟨n.kids, .nul, [],0,0,false,0,_,rfl,hH,hnil,by simp,hpl34 (.inl q3),(by rw [hsh34 (.inl q3),decide_eq_true (by omega)]; simp)⟩
    refine qE rfl (by simp [q3]) ?_;refine qj fun K hK => ?_;refine qg ?_;refine qm ?_;refine qe hK ?_
    by_cases q4 : n.op = 4
    ·refine qD rfl (by simp [q4]) ?_;refine qq ?_;refine qj fun K hK => ?_;refine qp (o := 6) ?_;refine ql hH at1 ?_;refine qm ?_;refine qe hK ?_;refine qq ?_;refine qj fun K hK => ?_;refine qm ?_;refine qg ?_;refine qe hK ?_;refine EvC.cond (by rfl) (fun hk2 => ?_) (fun hk2 => ?_) <;> try simp only [decide_eq_true_eq,decide_eq_false_iff_not] at hk2
     ·refine qq ?_;refine qj fun K hK => ?_;refine qm ?_;refine qe hK ?_;refine EvC.ret ⟨rx,_,_,rfl,rl hSb hH (rfl),?_⟩;rw [hno (by rw [hsh34 (.inr q4)]; simp only; rw [decide_eq_false (by omega)]; rfl)]
      rfl
     ·refine EvC.skip ?_;exact ⟨n.kids, .nul, [],0,0,false,0,_,rfl,hH,hnil,by simp,hpl34 (.inr q4),(by rw [hsh34 (.inr q4),decide_eq_true (by omega)]; simp)⟩
    refine qE rfl (by simp [q4]) ?_;have hs3 : ¬ (n.op = 3 \/ n.op = 4) := by omega
    refine qq ?_;refine qj fun K hK => ?_;refine qg ?_;refine qm ?_;refine qe hK ?_;refine EvC.cond (by rfl) (fun q5 => ?_) (fun q5 => ?_) <;> try simp only [beq_iff_eq,beq_eq_false_iff_ne,ne_eq] at q5
    ·have hsh5 : shapeR n = (1,((((decide (0 <= n.mn) && decide (n.mn <= 30)) && decide (n.mx <= 30)) && decide (-1 <= n.mx)) && (decide (n.mx < 0) || decide (n.mn <= n.mx))) && ((n.kids == 1) && plainN n)) := by unfold shapeR; rw [if_neg hs1,if_neg q2,if_neg hs3,if_pos q5]
     refine qq ?_;refine qj fun K hK => ?_;refine qm ?_;refine qe hK ?_;change EvC _ _ _ _ _ _;refine qq ?_;generalize hK : SeqQ _ _ _ _ = K;refine EvC.regY rfl ?_;refine EvY.cons ?_;refine qp (o := 2) ?_;refine EvO.nil ⟨rfl,?_⟩;refine EvY.cons ?_;refine ql hH at1 ?_;refine EvO.nil ⟨rfl,?_⟩;refine EvY.cons ?_;refine qp (o := 3) ?_;refine EvO.nil ⟨rfl,?_⟩;refine EvY.cons ?_;refine ql hH at1 ?_;refine EvO.nil ⟨rfl,?_⟩;refine EvY.cons ?_;refine qp (o := 4) ?_;refine EvO.nil ⟨rfl,?_⟩;refine EvY.cons ?_;refine ql hH at1 ?_;refine EvO.nil ⟨rfl,?_⟩;refine EvY.cons ?_;refine qp (o := 2) ?_;refine EvO.nil ⟨rfl,?_⟩;refine EvY.cons ?_;refine qT hH at0 fun st hH => ?_;dsimp only [u2,u1,u3,u4,setMany,u5,u6,D.cells,Nat.reduceAdd,nodC] at hH;refine EvO.nil ⟨by exact Bool.and_eq_true_iff.2 ⟨chk_still rfl rfl rfl (Has.at (by assumption) at1) (Has.at (by assumption) at1) (Has.at (by assumption) at1) (by exact hrf),Bool.and_eq_true_iff.2 ⟨chk_still rfl rfl rfl (Has.at (by assumption) at1) (Has.at (by assumption) at1) (Has.at (by assumption) at1) (by exact hrf),rfl⟩⟩,?_⟩;refine EvY.cons ?_;refine qp (o := 3) ?_;refine EvO.nil ⟨rfl,?_⟩;refine EvY.cons ?_;refine qT hH at0 fun st hH => ?_;dsimp only [u2,u1,u3,u4,setMany,u5,u6,D.cells,Nat.reduceAdd,nodC] at hH;refine EvO.nil ⟨by exact Bool.and_eq_true_iff.2 ⟨chk_still rfl rfl rfl (Has.at (by assumption) at1) (Has.at (by assumption) at1) (Has.at (by assumption) at1) (by exact hrf),rfl⟩,?_⟩;refine EvY.cons ?_;refine qp (o := 4) ?_;refine EvO.nil ⟨rfl,?_⟩;refine EvY.cons ?_;refine qT hH at0 fun st hH => ?_;dsimp only [u2,u1,u3,u4,setMany,u5,u6,D.cells,Nat.reduceAdd,nodC] at hH;refine EvO.nil ⟨rfl,?_⟩;refine EvY.nil ?_;subst hK;refine qq ?_;refine EvC.cutT 90 (.bool ((((decide (n.mn < 0) || decide (n.mn > 30)) || decide (n.mx > 30)) || decide (n.mx < -1)) || (decide (n.mx >= 0) && decide (n.mx < n.mn)))) [] ?_ (fun ff tmp htmp => ?_)
     ·refine qp (o := 2) ?_;refine ql hH at1 ?_;refine qg ?_;refine qm ?_;refine EvO.two 64 rfl (fun hg3 => ?_) (fun hg3 => ?_)
      ·refine qs ?_ (hg := wn hg3);refine qs ?_ (hg := wn hg3);refine qs ?_ (hg := wn hg3);refine qt hg3 ?_;refine qm ?_;refine qs ?_;refine qs ?_;refine qs ?_;refine qg ?_;refine qm ?_;refine qs ?_;refine qs ?_;refine qs ?_;refine qg ?_;refine qm ?_;refine qs ?_;refine qs ?_;refine qs ?_;refine qs ?_;refine qs ?_;refine qs ?_;refine qs ?_;refine qs ?_;refine qs ?_;refine qs ?_;refine qg ?_;refine EvO.nil (leafT ?_ ?_)
       ·dsimp only [setW,List.foldl,nth,u2,u1]
        all_goals (first | rfl | simp)
       ·dsimp only [Fr.putO,Fr.put,Fr.clean,Fr.ev,Fr.get,nth,V.look,u1,u2,v1,v2,v3,v4,v5,v6,v7,List.length,u3,u4,Nat.reduceSub,Nat.reduceAdd,List.map]
        all_goals (simp [hg3]; done)
      ·refine qp (o := 2) ?_ (hg := wi hg3);refine ql hH at1 ?_ (hg := wi hg3);refine qg ?_ (hg := wi hg3);refine qu hg3 ?_;refine qm ?_;refine EvO.two 69 rfl (fun hg8 => ?_) (fun hg8 => ?_)
       ·refine qs ?_ (hg := wn hg8);refine qs ?_ (hg := wn hg8);refine qs ?_ (hg := wn hg8);refine qt hg8 ?_;refine qm ?_;refine qs ?_;refine qs ?_;refine qs ?_;refine qg ?_;refine qm ?_;refine qs ?_;refine qs ?_;refine qs ?_;refine qs ?_;refine qs ?_;refine qs ?_;refine qs ?_;refine qs ?_;refine qs ?_;refine qs ?_;refine qg ?_;refine EvO.nil (leafT ?_ ?_)
        ·dsimp only [setW,List.foldl,nth,u2,u1]
         all_goals (first | rfl | simp)
        ·dsimp only [Fr.putO,Fr.put,Fr.clean,Fr.ev,Fr.get,nth,V.look,u1,u2,v1,v2,v3,v4,v5,v6,v7,List.length,u3,u4,Nat.reduceSub,Nat.reduceAdd,List.map]
         all_goals (simp [hg3,hg8]; done)
       ·refine qp (o := 3) ?_ (hg := wi hg8);refine ql hH at1 ?_ (hg := wi hg8);refine qg ?_ (hg := wi hg8);refine qu hg8 ?_;refine qm ?_;refine EvO.two 74 rfl (fun hg13 => ?_) (fun hg13 => ?_)
        ·refine qs ?_ (hg := wn hg13);refine qs ?_ (hg := wn hg13);refine qs ?_ (hg := wn hg13);refine qt hg13 ?_;refine qm ?_;refine qs ?_;refine qs ?_;refine qs ?_;refine qs ?_;refine qs ?_;refine qs ?_;refine qs ?_;refine qs ?_;refine qs ?_;refine qs ?_;refine qg ?_;refine EvO.nil (leafT ?_ ?_)
         ·dsimp only [setW,List.foldl,nth,u2,u1]
          all_goals (first | rfl | simp)
         ·dsimp only [Fr.putO,Fr.put,Fr.clean,Fr.ev,Fr.get,nth,V.look,u1,u2,v1,v2,v3,v4,v5,v6,v7,List.length,u3,u4,Nat.reduceSub,Nat.reduceAdd,List.map]
          all_goals (simp [hg3,hg8,hg13]; done)
        ·refine qp (o := 3) ?_ (hg := wi hg13);refine ql hH at1 ?_ (hg := wi hg13);refine qg ?_ (hg := wi hg13);refine qu hg13 ?_;refine qm ?_;refine EvO.two 79 rfl (fun hg18 => ?_) (fun hg18 => ?_)
         ·refine qs ?_ (hg := wn hg18);refine qs ?_ (hg := wn hg18);refine qs ?_ (hg := wn hg18);refine qs ?_ (hg := wn hg18);refine qs ?_;refine qs ?_;refine qs ?_;refine qs ?_;refine qs ?_;refine qs ?_ (hg := wn hg18);refine qt hg18 ?_;refine EvO.nil (leafT ?_ ?_)
          ·dsimp only [setW,List.foldl,nth,u2,u1]
           all_goals (first | rfl | simp)
          ·dsimp only [Fr.putO,Fr.put,Fr.clean,Fr.ev,Fr.get,nth,V.look,u1,u2,v1,v2,v3,v4,v5,v6,v7,List.length,u3,u4,Nat.reduceSub,Nat.reduceAdd,List.map]
           all_goals (simp [hg3,hg8,hg13,hg18]; done)
         ·refine qp (o := 3) ?_ (hg := wi hg18);refine ql hH at1 ?_ (hg := wi hg18);refine qg ?_ (hg := wi hg18);refine qm ?_ (hg := wi hg18);refine EvO.two 83 rfl (fun hg22 => ?_) (fun hg22 => ?_)
          ·refine qp (o := 3) ?_ (hg := wi hg22);refine ql hH at1 ?_ (hg := wi hg22);refine qp (o := 2) ?_ (hg := wi hg22);refine ql hH at1 ?_ (hg := wi hg22);refine qg ?_ (hg := wi hg22);refine EvO.pickT (wantD_is rfl rfl rfl hg18) rfl hg22 (put_T rfl _) ?_;refine qu hg18 ?_;refine EvO.nil (leafT ?_ ?_)
           ·dsimp only [setW,List.foldl,nth,u2,u1]
            all_goals (first | rfl | simp)
           ·dsimp only [Fr.putO,Fr.put,Fr.clean,Fr.ev,Fr.get,nth,V.look,u1,u2,v1,v2,v3,v4,v5,v6,v7,List.length,u3,u4,Nat.reduceSub,Nat.reduceAdd,List.map]
            all_goals (simp [hg3,hg8,hg13,hg18,hg22]; done)
          ·refine qs ?_ (hg := wn hg22);refine qs ?_ (hg := wn hg22);refine qs ?_ (hg := wn hg22);refine qs ?_ (hg := wn hg22);refine qs ?_ (hg := wn hg22);refine EvO.pickF (wantD_is rfl rfl rfl hg18) rfl hg22 (put_T rfl _) ?_;refine qu hg18 ?_;refine EvO.nil (leafT ?_ ?_)
           ·dsimp only [setW,List.foldl,nth,u2,u1]
            all_goals (first | rfl | simp)
           ·dsimp only [Fr.putO,Fr.put,Fr.clean,Fr.ev,Fr.get,nth,V.look,u1,u2,v1,v2,v3,v4,v5,v6,v7,List.length,u3,u4,Nat.reduceSub,Nat.reduceAdd,List.map]
            all_goals (simp [hg3,hg8,hg13,hg18,hg22]; done)
     dsimp only [setW,List.foldl,nth,u2,u1]
     by_cases hbad : (((0 <= n.mn /\ n.mn <= 30) /\ n.mx <= 30) /\ -1 <= n.mx) /\ (n.mx < 0 \/ n.mn <= n.mx)
     ·have hcc : ((((decide (n.mn < 0) || decide (n.mn > 30)) || decide (n.mx > 30)) || decide (n.mx < -1)) || (decide (n.mx >= 0) && decide (n.mx < n.mn))) = false := by
       simp only [Bool.or_eq_false_iff,Bool.and_eq_false_iff,decide_eq_false_iff_not]; omega
      refine EvC.cond (v := false) (by dsimp only [Fr.ev,Fr.get,nth,V.look]; exact htmp.trans (congrArg D.bool hcc)) (fun h => by cases h) (fun _ => ?_);refine EvC.skip ?_;exact ⟨1, .nul, [],n.mn,n.mx,n.lz,0,_,rfl,hH,hnil,by simp,(by unfold plainN; simp [q5,Bool.and_comm]),(by rw [hsh5]; congr 1; have hh : ((((decide (0 <= n.mn) && decide (n.mn <= 30)) && decide (n.mx <= 30)) && decide (-1 <= n.mx)) && (decide (n.mx < 0) || decide (n.mn <= n.mx))) = true := (by simp only [Bool.and_eq_true,Bool.or_eq_true,decide_eq_true_eq]; exact hbad); rw [hh,Bool.true_and])⟩
     ·have hcc : ((((decide (n.mn < 0) || decide (n.mn > 30)) || decide (n.mx > 30)) || decide (n.mx < -1)) || (decide (n.mx >= 0) && decide (n.mx < n.mn))) = true := by
       simp only [Bool.or_eq_true,Bool.and_eq_true,decide_eq_true_eq]; omega
      refine EvC.cond (v := true) (by dsimp only [Fr.ev,Fr.get,nth,V.look]; exact htmp.trans (congrArg D.bool hcc)) (fun _ => ?_) (fun h => by cases h);refine qq ?_;refine qj fun K hK => ?_;refine qm ?_;refine qe hK ?_;refine EvC.ret ⟨rx,_,_,rfl,rl hSb hH (rfl),?_⟩
      have hh : ((((decide (0 <= n.mn) && decide (n.mn <= 30)) && decide (n.mx <= 30)) && decide (-1 <= n.mx)) && (decide (n.mx < 0) || decide (n.mn <= n.mx))) = false := by
       cases h : ((((decide (0 <= n.mn) && decide (n.mn <= 30)) && decide (n.mx <= 30)) && decide (-1 <= n.mx)) && (decide (n.mx < 0) || decide (n.mn <= n.mx))) with
       | false => rfl
       | true =>
        simp only [Bool.and_eq_true,Bool.or_eq_true,decide_eq_true_eq] at h;exact absurd h hbad
      rw [hno (by rw [hsh5]; simp only; rw [hh]; rfl)]
      rfl
    refine qq ?_;refine qj fun K hK => ?_;refine qg ?_;refine qm ?_;refine qe hK ?_;refine EvC.cond (by rfl) (fun q6 => ?_) (fun q6 => ?_) <;> try simp only [beq_iff_eq,beq_eq_false_iff_ne,ne_eq] at q6
    ·have hsh6 : shapeR n = (1,(decide (1 <= n.cap) && decide (n.cap <= 4)) && ((n.kids == 1) && plainN n)) := by unfold shapeR; rw [if_neg hs1,if_neg q2,if_neg hs3,if_neg q5,if_pos q6]
     refine qq ?_;refine qj fun K hK => ?_;refine qm ?_;refine qe hK ?_;refine qq ?_;refine qj fun K hK => ?_;refine qp (o := 5) ?_;refine ql hH at1 ?_;refine qp (o := 5) ?_;refine qT hH at0 fun st hH => ?_;dsimp only [u2,u1,u3,u4,setMany,u5,u6,D.cells,Nat.reduceAdd,nodC] at hH;refine qe hK ?_;refine qq ?_;refine EvC.cutT 103 (.bool (decide (n.cap < 1) || decide (n.cap > 4))) [] ?_ (fun ff tmp htmp => ?_)
     ·refine qp (o := 5) ?_;refine ql hH at1 ?_;refine qg ?_;refine qm ?_;refine EvO.two 99 rfl (fun hg3 => ?_) (fun hg3 => ?_)
      ·refine qs ?_ (hg := wn hg3);refine qs ?_ (hg := wn hg3);refine qs ?_ (hg := wn hg3);refine qt hg3 ?_;refine EvO.nil (leafT ?_ ?_)
       ·dsimp only [setW,List.foldl,nth,u2,u1]
        all_goals (first | rfl | simp)
       ·dsimp only [Fr.putO,Fr.put,Fr.clean,Fr.ev,Fr.get,nth,V.look,u1,u2,v1,v2,v3,v4,v5,v6,v7,List.length,u3,u4,Nat.reduceSub,Nat.reduceAdd,List.map]
        all_goals (simp [hg3]; done)
      ·refine qp (o := 5) ?_ (hg := wi hg3);refine ql hH at1 ?_ (hg := wi hg3);refine qg ?_ (hg := wi hg3);refine qu hg3 ?_;refine EvO.nil (leafT ?_ ?_)
       ·dsimp only [setW,List.foldl,nth,u2,u1]
        all_goals (first | rfl | simp)
       ·dsimp only [Fr.putO,Fr.put,Fr.clean,Fr.ev,Fr.get,nth,V.look,u1,u2,v1,v2,v3,v4,v5,v6,v7,List.length,u3,u4,Nat.reduceSub,Nat.reduceAdd,List.map]
        all_goals (simp [hg3]; done)
     dsimp only [setW,List.foldl,nth,u2,u1]
     by_cases hbad : 1 <= n.cap /\ n.cap <= 4
     ·have hcc : (decide (n.cap < 1) || decide (n.cap > 4)) = false := by rw [decide_eq_false (by omega),decide_eq_false (by omega)]; rfl
      refine EvC.cond (v := false) (by dsimp only [Fr.ev,Fr.get,nth,V.look]; exact htmp.trans (congrArg D.bool hcc)) (fun h => by cases h) (fun _ => ?_);refine EvC.skip ?_;exact ⟨1, .nul, [],0,0,false,n.cap,_,rfl,hH,hnil,by simp,(hpf6 q6),(by rw [hsh6,decide_eq_true hbad.1,decide_eq_true hbad.2]; rfl)⟩
     ·have hcc : (decide (n.cap < 1) || decide (n.cap > 4)) = true := by simp only [Bool.or_eq_true,decide_eq_true_eq]; omega
      refine EvC.cond (v := true) (by dsimp only [Fr.ev,Fr.get,nth,V.look]; exact htmp.trans (congrArg D.bool hcc)) (fun _ => ?_) (fun h => by cases h);refine qq ?_;refine qj fun K hK => ?_;refine qm ?_;refine qe hK ?_;refine EvC.ret ⟨rx,_,_,rfl,rl hSb hH (rfl),?_⟩
      have hh : (decide (1 <= n.cap) && decide (n.cap <= 4)) = false := by
       rw [Bool.and_eq_false_iff,decide_eq_false_iff_not,decide_eq_false_iff_not]; omega
      rw [hno (by rw [hsh6]; simp only; rw [hh]; rfl)]
      rfl
    refine qq ?_;refine qj fun K hK => ?_;refine qm ?_;refine qe hK ?_;refine EvC.ret ⟨rx,_,_,rfl,rl hSb hH (rfl),?_⟩;rw [hno (by unfold shapeR; rw [if_neg hs1,if_neg q2,if_neg hs3,if_neg q5,if_neg q6])]
    rfl
   ·rintro fr st ⟨kd,bd,brs,bmn,bmx,blz,bcap,tmp,hfr,hH,hbs,hbl,hpl,hsh⟩;rw [hfr];clear hfr;generalize ixF_Gb fr = ee;clear fr;rw [hsh] at hR hno;simp only at hR hno;have hba := hbs.arg s0.bs.length S;refine qq ?_;refine qq ?_;refine EvC.cutT 144 (.bool ((((((n.kids != kd) || (n.mn != bmn)) || (n.mx != bmx)) || (n.lz != blz)) || (n.cap != bcap)) || (((n.rs.length : Nat) : Int) != ((brs.length : Nat) : Int)))) [] ?_ (fun ff tmp htmp => ?_)
    ·refine qp (o := 6) ?_;refine ql hH at1 ?_;refine qm ?_;refine qg ?_;refine qm ?_;refine EvO.two 108 rfl (fun hg4 => ?_) (fun hg4 => ?_)
     ·refine qs ?_ (hg := wn hg4);refine qs ?_ (hg := wn hg4);refine qs ?_ (hg := wn hg4);refine qs ?_ (hg := wn hg4);refine qs ?_ (hg := wn hg4);refine qt hg4 ?_;refine qm ?_;refine qs ?_;refine qs ?_;refine qs ?_;refine qs ?_;refine qs ?_;refine qg ?_;refine qm ?_;refine qs ?_;refine qs ?_;refine qs ?_;refine qs ?_;refine qs ?_;refine qg ?_;refine qm ?_;refine qs ?_;refine qs ?_;refine qs ?_;refine qs ?_;refine qs ?_;refine qg ?_;refine qm ?_;refine qs ?_;refine qs ?_;refine qs ?_;refine qs ?_;refine qs ?_;refine qs ?_;refine qs ?_;refine qg ?_;refine EvO.nil (leafT ?_ ?_)
      ·dsimp only [setW,List.foldl,nth,u2,u1]
       all_goals (first | rfl | simp)
      ·dsimp only [Fr.putO,Fr.put,Fr.clean,Fr.ev,Fr.get,nth,V.look,u1,u2,v1,v2,v3,v4,v5,v6,v7,List.length,u3,u4,Nat.reduceSub,Nat.reduceAdd,List.map]
       all_goals (simp [hg4]; done)
     ·refine qp (o := 2) ?_ (hg := wi hg4);refine ql hH at1 ?_ (hg := wi hg4);refine qp (o := 2) ?_ (hg := wi hg4);refine ql hH at0 ?_ (hg := wi hg4);refine qg ?_ (hg := wi hg4);refine qu hg4 ?_;refine qm ?_;refine EvO.two 115 rfl (fun hg11 => ?_) (fun hg11 => ?_)
      ·refine qs ?_ (hg := wn hg11);refine qs ?_ (hg := wn hg11);refine qs ?_ (hg := wn hg11);refine qs ?_ (hg := wn hg11);refine qs ?_ (hg := wn hg11);refine qt hg11 ?_;refine qm ?_;refine qs ?_;refine qs ?_;refine qs ?_;refine qs ?_;refine qs ?_;refine qg ?_;refine qm ?_;refine qs ?_;refine qs ?_;refine qs ?_;refine qs ?_;refine qs ?_;refine qg ?_;refine qm ?_;refine qs ?_;refine qs ?_;refine qs ?_;refine qs ?_;refine qs ?_;refine qs ?_;refine qs ?_;refine qg ?_;refine EvO.nil (leafT ?_ ?_)
       ·dsimp only [setW,List.foldl,nth,u2,u1]
        all_goals (first | rfl | simp)
       ·dsimp only [Fr.putO,Fr.put,Fr.clean,Fr.ev,Fr.get,nth,V.look,u1,u2,v1,v2,v3,v4,v5,v6,v7,List.length,u3,u4,Nat.reduceSub,Nat.reduceAdd,List.map]
        all_goals (simp [hg4,hg11]; done)
      ·refine qp (o := 3) ?_ (hg := wi hg11);refine ql hH at1 ?_ (hg := wi hg11);refine qp (o := 3) ?_ (hg := wi hg11);refine ql hH at0 ?_ (hg := wi hg11);refine qg ?_ (hg := wi hg11);refine qu hg11 ?_;refine qm ?_;refine EvO.two 122 rfl (fun hg18 => ?_) (fun hg18 => ?_)
       ·refine qs ?_ (hg := wn hg18);refine qs ?_ (hg := wn hg18);refine qs ?_ (hg := wn hg18);refine qs ?_ (hg := wn hg18);refine qs ?_ (hg := wn hg18);refine qt hg18 ?_;refine qm ?_;refine qs ?_;refine qs ?_;refine qs ?_;refine qs ?_;refine qs ?_;refine qg ?_;refine qm ?_;refine qs ?_;refine qs ?_;refine qs ?_;refine qs ?_;refine qs ?_;refine qs ?_;refine qs ?_;refine qg ?_;refine EvO.nil (leafT ?_ ?_)
        ·dsimp only [setW,List.foldl,nth,u2,u1]
         all_goals (first | rfl | simp)
        ·dsimp only [Fr.putO,Fr.put,Fr.clean,Fr.ev,Fr.get,nth,V.look,u1,u2,v1,v2,v3,v4,v5,v6,v7,List.length,u3,u4,Nat.reduceSub,Nat.reduceAdd,List.map]
         all_goals (simp [hg4,hg11,hg18]; done)
       ·refine qp (o := 4) ?_ (hg := wi hg18);refine ql hH at1 ?_ (hg := wi hg18);refine qp (o := 4) ?_ (hg := wi hg18);refine ql hH at0 ?_ (hg := wi hg18);refine qg ?_ (hg := wi hg18);refine qu hg18 ?_;refine qm ?_;refine EvO.two 129 rfl (fun hg25 => ?_) (fun hg25 => ?_)
        ·refine qs ?_ (hg := wn hg25);refine qs ?_ (hg := wn hg25);refine qs ?_ (hg := wn hg25);refine qs ?_ (hg := wn hg25);refine qs ?_ (hg := wn hg25);refine qt hg25 ?_;refine qm ?_;refine qs ?_;refine qs ?_;refine qs ?_;refine qs ?_;refine qs ?_;refine qs ?_;refine qs ?_;refine qg ?_;refine EvO.nil (leafT ?_ ?_)
         ·dsimp only [setW,List.foldl,nth,u2,u1]
          all_goals (first | rfl | simp)
         ·dsimp only [Fr.putO,Fr.put,Fr.clean,Fr.ev,Fr.get,nth,V.look,u1,u2,v1,v2,v3,v4,v5,v6,v7,List.length,u3,u4,Nat.reduceSub,Nat.reduceAdd,List.map]
          all_goals (simp_all; done)
        ·refine qp (o := 5) ?_ (hg := wi hg25);refine ql hH at1 ?_ (hg := wi hg25);refine qp (o := 5) ?_ (hg := wi hg25);refine ql hH at0 ?_ (hg := wi hg25);refine qg ?_ (hg := wi hg25);refine qu hg25 ?_;refine qm ?_;refine EvO.two 136 rfl (fun hg32 => ?_) (fun hg32 => ?_)
         ·refine qs ?_ (hg := wn hg32);refine qs ?_ (hg := wn hg32);refine qs ?_ (hg := wn hg32);refine qs ?_ (hg := wn hg32);refine qs ?_ (hg := wn hg32);refine qs ?_ (hg := wn hg32);refine qs ?_ (hg := wn hg32);refine qt hg32 ?_;refine EvO.nil (leafT ?_ ?_)
          ·dsimp only [setW,List.foldl,nth,u2,u1]
           all_goals (first | rfl | simp)
          ·dsimp only [Fr.putO,Fr.put,Fr.clean,Fr.ev,Fr.get,nth,V.look,u1,u2,v1,v2,v3,v4,v5,v6,v7,List.length,u3,u4,Nat.reduceSub,Nat.reduceAdd,List.map]
           all_goals (simp [hg4,hg11,hg18,hg25,hg32]; done)
         ·refine qp (o := 1) ?_ (hg := wi hg32);refine ql hH at1 ?_ (hg := wi hg32);refine qn ?_ (hg := wi hg32);simp only [List.length_map];refine qp (o := 1) ?_ (hg := wi hg32);refine ql hH at0 ?_ (hg := wi hg32);refine qn ?_ (hg := wi hg32);simp only [List.length_map];refine qg ?_ (hg := wi hg32);refine qu hg32 ?_;refine EvO.nil (leafT ?_ ?_)
          ·dsimp only [setW,List.foldl,nth,u2,u1]
           all_goals (first | rfl | simp)
          ·dsimp only [Fr.putO,Fr.put,Fr.clean,Fr.ev,Fr.get,nth,V.look,u1,u2,v1,v2,v3,v4,v5,v6,v7,List.length,u3,u4,Nat.reduceSub,Nat.reduceAdd,List.map]
           all_goals (simp_all; done)
    dsimp only [setW,List.foldl,nth,u2,u1]
    have hEq : ((((((n.kids != kd) || (n.mn != bmn)) || (n.mx != bmx)) || (n.lz != blz)) || (n.cap != bcap)) || (((n.rs.length : Nat) : Int) != ((brs.length : Nat) : Int))) = !((n.kids == kd) && plainN n) := by
     rw [hpl];simp only [bne,Bool.not_and,Bool.or_assoc]
    cases hok : ((n.kids == kd) && plainN n) with
    | false =>
     rw [hok] at hEq hno;refine EvC.cond (v := true) (by dsimp only [Fr.ev,Fr.get,nth,V.look]; exact htmp.trans (congrArg D.bool hEq)) (fun _ => ?_) (fun h => by cases h);refine qq ?_;refine qj fun K hK => ?_;refine qm ?_;refine qe hK ?_;refine EvC.ret ⟨rx,_,_,rfl,rl hSb hH (rfl),?_⟩;rw [hno rfl]
     rfl
    | true =>
     rw [hok] at hEq hR;rw [if_pos rfl] at hR;refine EvC.cond (v := false) (by dsimp only [Fr.ev,Fr.get,nth,V.look]; exact htmp.trans (congrArg D.bool hEq)) (fun h => by cases h) (fun _ => ?_);refine EvC.skip ?_;have hH := hH.drop 2;refine qq ?_;refine qj fun K hK => ?_;refine qm ?_;refine qA ?_;refine qm ?_;refine qe hK ?_;refine qq ?_;refine qq ?_;refine qj fun K hK => ?_;refine qm ?_;refine qe hK ?_;refine EvC.block ?_;refine EvC.loop (fun mm fr st => ∃ (i : Nat) (a : Option Nat),fr.clean = ⟨30, [d, .int .i64 (optD a), .int .i64 (dp : Nat),ixF_Gb fr 3,ixF_Gb fr 4,ixF_Gb fr 5,ixF_Gb fr 6,ixF_Gb fr 7,ixF_Gb fr 8, .int .i64 kd, .int .i64 (i : Nat),ixF_Gb fr 11,ixF_Gb fr 12,ixF_Gb fr 13,ixF_Gb fr 14,ixF_Gb fr 15,ixF_Gb fr 16,ixF_Gb fr 17,ixF_Gb fr 18,ixF_Gb fr 19,ixF_Gb fr 20,ixF_Gb fr 21,ixF_Gb fr 22,ixF_Gb fr 23,ixF_Gb fr 24,ixF_Gb fr 25,ixF_Gb fr 26,ixF_Gb fr 27,ixF_Gb fr 28,ixF_Gb fr 29], []⟩ /\ Has s0.bs.length S st [] /\ (i <= l.length + 1) /\ (∀ j,a = some j -> j <= l.length /\ i < j) /\ ((match a with | some j => l.length + 2 - j | none => 0) <= mm) /\ ((match a with | some j => kidsR (walkR l f) (kd.toNat - i) j | none => none) = R)) (l.length + 2) ?_ ?_
     ·exact ⟨0,some (at_ + 1),rfl,hH,by omega,(fun j hj => by cases hj; omega),(by show l.length + 2 - (at_ + 1) <= l.length + 2; omega),hR⟩
     rintro mm fr st ⟨i,a,hfr,hH,hi1,ha1,hmm,hra⟩;rw [hfr];clear hfr;generalize ixF_Gb fr = ee;clear fr;refine qq ?_;refine qq ?_;refine EvC.cutT 153 (.bool (decide ((i : Int) < kd) && decide (optD a >= 0))) [] ?_ (fun ff tmp htmp => ?_)
     ·refine qm ?_;refine qm ?_;refine qg ?_;refine qm ?_;refine EvO.two 150 rfl (fun hg3 => ?_) (fun hg3 => ?_)
      ·refine qm ?_ (hg := wi hg3);refine qg ?_ (hg := wi hg3);refine qt hg3 ?_;refine EvO.nil (leafT ?_ ?_)
       ·dsimp only [setW,List.foldl,nth,u2,u1]
        all_goals (first | rfl | simp)
       ·dsimp only [Fr.putO,Fr.put,Fr.clean,Fr.ev,Fr.get,nth,V.look,u1,u2,v1,v2,v3,v4,v5,v6,v7,List.length,u3,u4,Nat.reduceSub,Nat.reduceAdd,List.map]
        all_goals (simp [hg3]; done)
      ·refine qs ?_ (hg := wn hg3);refine qs ?_ (hg := wn hg3);refine qu hg3 ?_;refine EvO.nil (leafT ?_ ?_)
       ·dsimp only [setW,List.foldl,nth,u2,u1]
        all_goals (first | rfl | simp)
       ·dsimp only [Fr.putO,Fr.put,Fr.clean,Fr.ev,Fr.get,nth,V.look,u1,u2,v1,v2,v3,v4,v5,v6,v7,List.length,u3,u4,Nat.reduceSub,Nat.reduceAdd,List.map]
        all_goals (simp [hg3]; done)
     dsimp only [setW,List.foldl,nth,u2,u1];dsimp only [Fr.putO,Fr.put,Fr.clean,Fr.ev,Fr.get,nth,V.look,u1,u2,v1,v2,v3,v4,v5,v6,v7,List.length,u3,u4,Nat.reduceSub,Nat.reduceAdd,List.map]
     cases a with
     | none =>
      have hcc : (decide ((i : Int) < kd) && decide (optD none >= 0)) = false := by
       rw [show decide (optD none >= 0) = false from rfl,Bool.and_false]
      refine EvC.cond (v := false) (by dsimp only [Fr.ev,Fr.get,nth,V.look]; exact htmp.trans (congrArg D.bool hcc)) (fun h => by cases h) (fun _ => ?_);refine EvC.exit ?_;refine qq ?_;refine qj fun K hK => ?_;refine qm ?_;refine qm ?_;refine qe hK ?_;refine EvC.ret ⟨rx,_,_,rfl,rl hSb hH (rfl),?_⟩;have hra : none = R := hra;rw [<- hra]
      rfl
     | some j =>
      obtain ⟨hj1,hj2⟩ := ha1 j rfl;have hmm : l.length + 2 - j <= mm := hmm;have hra : kidsR (walkR l f) (kd.toNat - i) j = R := hra
      by_cases hik : (i : Int) < kd
      ·have hcc : (decide ((i : Int) < kd) && decide (optD (some j) >= 0)) = true := by
        rw [decide_eq_true hik,decide_eq_true (show optD (some j) >= 0 by show ((j : Nat) : Int) >= 0; omega)]; rfl
       refine EvC.cond (v := true) (by dsimp only [Fr.ev,Fr.get,nth,V.look]; exact htmp.trans (congrArg D.bool hcc)) (fun _ => ?_) (fun h => by cases h);refine EvC.skip ?_;refine qq ?_;refine EvC.block ?_
       obtain ⟨q,hq⟩ : ∃ q,kd.toNat - i = q + 1 := ⟨kd.toNat - i - 1,by omega⟩
       rw [hq] at hra;unfold kidsR at hra;have hcall := fun st => ih (s0 := st) (at_ := j) (by omega) (by omega);refine qj fun K hK => ?_;refine qm ?_;refine qm ?_;refine qm ?_;refine EvO.addZ (z := ((241 - f : Nat) : Int)) rfl (ev rfl) (ev rfl) (by (try simp only [List.length_reverse,List.length_cons,List.length_nil,List.length_append,List.length_map,List.length_set]); rw [wrap_i64 (by omega) (by omega)] <;> omega) (put_T rfl _) ?_;refine qv ((hcall _)) ?_;refine qm ?_;refine qe hK ?_;refine qj fun K hK => ?_;refine qm ?_;refine qA ?_;refine qm ?_;refine qe hK ?_
       cases hw : walkR l f j with
       | none =>
        rw [hw] at hra;exact ⟨mm - 1,by omega,⟨i + 1,none,rfl,hH,by omega,(fun j' hj' => by cases hj'),by show 0 <= mm - 1; omega,hra⟩⟩
       | some j' =>
        have h1 := walkR_lt _ _ _ hw;have h2 := walkR_top _ _ _ hw;rw [hw] at hra;exact ⟨mm - 1,by omega,⟨i + 1,some j',rfl,hH,by omega,(fun x hx => by cases hx; omega),(by show l.length + 2 - j' <= mm - 1; omega),(by show kidsR (walkR l f) (kd.toNat - (i + 1)) j' = R; rw [show kd.toNat - (i + 1) = q by omega]; exact hra)⟩⟩
      ·have hcc : (decide ((i : Int) < kd) && decide (optD (some j) >= 0)) = false := by
        rw [decide_eq_false hik]; rfl
       refine EvC.cond (v := false) (by dsimp only [Fr.ev,Fr.get,nth,V.look]; exact htmp.trans (congrArg D.bool hcc)) (fun h => by cases h) (fun _ => ?_);refine EvC.exit ?_;refine qq ?_;refine qj fun K hK => ?_;refine qm ?_;refine qm ?_;refine qe hK ?_;refine EvC.ret ⟨rx,_,_,rfl,rl hSb hH (rfl),?_⟩;rw [show kd.toNat - i = 0 by omega] at hra;rw [<- hra]
       rfl
  ·rw [List.getElem?_eq_none (by omega)] at hR
   have hT : (decide ((at_ : Int) >= (l.length : Nat)) || decide (((dp : Nat) : Int) > 240)) = true := by
    rw [decide_eq_true (by omega)]; rfl
   rw [hT];refine qB ?_;refine qq ?_;refine qj fun K hK => ?_;refine qm ?_;refine qe hK ?_;refine EvC.ret ⟨rx,_,_,rfl,rl hSb hH (rfl),?_⟩;rw [<- hR]
   rfl
theorem rend_ev {l : List Nod} {d : D} (hl : l.length <= 1048576) (hi : ∀ n ∈ l,n.ok) (hd : SlD d 7 (l.map nodC)) {s0 : St} : Ev pv 80 [d, .int .i64 0] s0 (.int .i64 (optD (walkR l 241 0))) s0 := by
 refine Ev.mk1 rfl fi80 rfl rfl rfl ?_;dsimp only [u3,u4,List.length,Nat.reduceSub,Nat.reduceAdd,w1,w2];obtain ⟨hSb,hF,hH⟩ := ri s0;generalize enterSt .ro s0 = S at *;have h := fun st => r10walk_ev hl hi hd 241 (s0 := st) (at_ := 0) (Nat.le_refl _) (by omega);refine qq ?_;refine qj fun K hK => ?_;refine qm ?_;refine qe hK ?_;refine qq ?_;refine qj fun K hK => ?_;refine qm ?_;refine qm ?_;refine qv ((h _)) ?_;refine qm ?_;refine qe hK ?_;refine EvC.ret ⟨rx,_,rfl,rl hSb hH (rfl)⟩
theorem rright_ev {s0 : St} {x : Nl} (hx : x.ok) : Ev pv 53 [x.d] s0 (.bool (rightN x.l)) s0 := by
 suffices hg : ∃ d,Ev pv 53 [x.d] s0 d s0 /\ d = .bool (rightR x.l) by
  obtain ⟨_,h1,rfl⟩ := hg;rw [<- rightR_eq];exact h1
 obtain ⟨hd,hi,hl⟩ := hx;obtain ⟨d,l⟩ := x;simp only at hd hi hl ⊢;unfold rightR;refine Ev.mkR rfl fi53 rfl rfl rfl ?_;dsimp only [u3,u4,List.length,Nat.reduceSub,Nat.reduceAdd,w1,w2];obtain ⟨hSb,hF,hH⟩ := ri s0;generalize enterSt .ro s0 = S at *;have hc := hd.arg s0.bs.length S;have hend := fun st => rend_ev (s0 := st) hl hi hd;refine qq ?_;refine qj fun K hK => ?_;refine qm ?_;refine qe hK ?_;refine qq ?_;refine qq ?_;refine EvC.cutT 19 (.bool (((((l.length : Nat) : Int) == 0) || decide (((l.length : Nat) : Int) > 480)) || (optD (walkR l 241 0) != ((l.length : Nat) : Int)))) [] ?_ (fun ff tmp htmp => ?_)
 ·refine qm ?_;refine qn ?_;simp only [List.length_map];refine qg ?_;refine qm ?_;refine EvO.two 8 rfl (fun hg3 => ?_) (fun hg3 => ?_)
  ·refine qs ?_ (hg := wn hg3);refine qs ?_ (hg := wn hg3);refine qs ?_ (hg := wn hg3);refine qt hg3 ?_;refine qm ?_;refine qs ?_;refine qs ?_;refine qs ?_;refine qs ?_;refine qs ?_;refine qg ?_;refine EvO.nil (leafT ?_ ?_)
   ·dsimp only [setW,List.foldl,nth,u2,u1]
    all_goals (first | rfl | simp)
   ·dsimp only [Fr.putO,Fr.put,Fr.clean,Fr.ev,Fr.get,nth,V.look,u1,u2,v1,v2,v3,v4,v5,v6,v7,List.length,u3,u4,Nat.reduceSub,Nat.reduceAdd,List.map]
    all_goals (simp [hg3]; done)
  ·refine qm ?_ (hg := wi hg3);refine qn ?_ (hg := wi hg3);simp only [List.length_map];refine qg ?_ (hg := wi hg3);refine qu hg3 ?_;refine qm ?_;refine EvO.two 13 rfl (fun hg8 => ?_) (fun hg8 => ?_)
   ·refine qs ?_ (hg := wn hg8);refine qs ?_ (hg := wn hg8);refine qs ?_ (hg := wn hg8);refine qs ?_ (hg := wn hg8);refine qs ?_ (hg := wn hg8);refine qt hg8 ?_;refine EvO.nil (leafT ?_ ?_)
    ·dsimp only [setW,List.foldl,nth,u2,u1]
     all_goals (first | rfl | simp)
    ·dsimp only [Fr.putO,Fr.put,Fr.clean,Fr.ev,Fr.get,nth,V.look,u1,u2,v1,v2,v3,v4,v5,v6,v7,List.length,u3,u4,Nat.reduceSub,Nat.reduceAdd,List.map]
     all_goals (simp [hg3,hg8]; done)
   ·refine qm ?_ (hg := wi hg8);refine qv ((hend _)) ?_ (hg := wi hg8);refine qm ?_ (hg := wi hg8);refine qn ?_ (hg := wi hg8);simp only [List.length_map];refine qg ?_ (hg := wi hg8);refine qu hg8 ?_;refine EvO.nil (leafT ?_ ?_)
    ·dsimp only [setW,List.foldl,nth,u2,u1]
     all_goals (first | rfl | simp)
    ·dsimp only [Fr.putO,Fr.put,Fr.clean,Fr.ev,Fr.get,nth,V.look,u1,u2,v1,v2,v3,v4,v5,v6,v7,List.length,u3,u4,Nat.reduceSub,Nat.reduceAdd,List.map]
     all_goals (simp [hg3,hg8]; done)
 dsimp only [setW,List.foldl,nth,u2,u1]
 have hiff : (((((l.length : Nat) : Int) == 0) || decide (((l.length : Nat) : Int) > 480)) || (optD (walkR l 241 0) != ((l.length : Nat) : Int))) = !((decide (1 <= l.length) && decide (l.length <= 480)) && decide (walkR l 241 0 = some l.length)) := by
  have hA : (optD (walkR l 241 0) != ((l.length : Nat) : Int)) = !decide (walkR l 241 0 = some l.length) := by
   cases walkR l 241 0 with
   | none => simp [optD] <;> omega
   | some j => by_cases hjl : j = l.length <;> simp [optD,bne,hjl] <;> omega
  rw [hA,Bool.not_and,Bool.not_and]
  congr 2
  ·by_cases h : l.length = 0
   ·simp [h]
   ·have : 1 <= l.length := by omega
    simp [h,this] <;> omega
  ·by_cases h : l.length <= 480
   ·simp [h] <;> omega
   ·simp [h] <;> omega
 cases hok : ((decide (1 <= l.length) && decide (l.length <= 480)) && decide (walkR l 241 0 = some l.length)) with
 | false =>
  rw [hok] at hiff;refine EvC.cond (v := true) (by dsimp only [Fr.ev,Fr.get,nth,V.look]; exact htmp.trans (congrArg D.bool hiff)) (fun _ => ?_) (fun h => by cases h);refine qq ?_;refine qj fun K hK => ?_;refine qm ?_;refine qe hK ?_;refine EvC.ret ⟨rx,_,_,rfl,rl hSb hH (rfl),?_⟩
  rfl
 | true =>
  rw [hok] at hiff;refine EvC.cond (v := false) (by dsimp only [Fr.ev,Fr.get,nth,V.look]; exact htmp.trans (congrArg D.bool hiff)) (fun h => by cases h) (fun _ => ?_);refine EvC.skip ?_;rw [Bool.true_and]
  obtain ⟨C,hC⟩ : ∃ C,capsR l 0 = C := ⟨_,rfl⟩
  rw [hC];refine qq ?_;refine qj fun K hK => ?_;refine qm ?_;refine qe hK ?_;refine qq ?_;refine qq ?_;refine qj fun K hK => ?_;refine qm ?_;refine qe hK ?_;refine EvC.block ?_;refine EvC.loop (fun mm fr st => ∃ (i g : Nat),fr.clean = ⟨5, [d,ixF_Gb fr 1,ixF_Gb fr 2, .int .i64 ((g + 1 : Nat) : Int), .int .i64 (i : Nat)], []⟩ /\ Has s0.bs.length S st [] /\ (i + mm = l.length) /\ (g <= i) /\ (capsR (l.drop i) g = C)) (l.length) ?_ ?_
  ·exact ⟨0,0,rfl,hH,by omega,by omega,hC⟩
  rintro mm fr st ⟨i,g,hfr,hH,hi1,hg1,hcp⟩;rw [hfr];clear hfr;generalize ixF_Gb fr = ee;clear fr;refine qq ?_;refine qq ?_;refine qj fun K hK => ?_;refine qm ?_;refine qm ?_;refine qn ?_;simp only [List.length_map];refine qg ?_;refine qe hK ?_;refine EvC.cond (by rfl) (fun h1 => ?_) (fun h1 => ?_) <;> try simp only [decide_eq_true_eq,decide_eq_false_iff_not] at h1
  ·refine EvC.skip ?_
   obtain ⟨n,hn⟩ : ∃ n,l[i]? = some n := ⟨l[i]'(by omega),List.getElem?_eq_getElem _⟩
   have hr1 := nod_get hn
   have hdr : l.drop i = n :: l.drop (i + 1) := by
    have := List.drop_eq_getElem_cons (l := l) (i := i) (by omega);rw [this]; congr 1;rw [List.getElem?_eq_getElem (by omega)] at hn;exact Option.some.inj hn
   rw [hdr] at hcp;unfold capsR at hcp;refine qq ?_;refine EvC.block ?_;refine qq ?_;refine qj fun K hK => ?_;refine qm ?_;refine qm ?_;refine qr fun p28 hp28 => ?_;refine qf (fo := 0) fun p29 hp29 => ?_;refine qR ?_;refine qg ?_;refine qe hK ?_;refine EvC.cond (by rfl) (fun h6 => ?_) (fun h6 => ?_) <;> try simp only [beq_iff_eq,beq_eq_false_iff_ne,ne_eq] at h6
   ·rw [if_pos h6] at hcp;refine qq ?_;refine qq ?_;refine qj fun K hK => ?_;refine qm ?_;refine qm ?_;refine qr fun p34 hp34 => ?_;refine qf (fo := 5) fun p35 hp35 => ?_;refine qR ?_;refine qm ?_;refine qg ?_;refine qe hK ?_;refine EvC.cond (by rfl) (fun hne => ?_) (fun hne => ?_) <;> try simp only [bne_iff_ne,bne_eq_false_iff_eq,ne_eq] at hne
    ·refine qq ?_;refine qj fun K hK => ?_;refine qm ?_;refine qe hK ?_;refine EvC.ret ⟨rx,_,_,rfl,rl hSb hH (rfl),?_⟩;rw [if_neg hne] at hcp;rw [<- hcp]
     rfl
    ·refine EvC.skip ?_;rw [if_pos (by omega)] at hcp;refine qj fun K hK => ?_;refine qm ?_;refine EvO.addZ (z := ((g + 1 + 1 : Nat) : Int)) rfl (ev rfl) (ev rfl) (by (try simp only [List.length_reverse,List.length_cons,List.length_nil,List.length_append,List.length_map,List.length_set]); rw [wrap_i64 (by omega) (by omega)] <;> omega) (put_T rfl _) ?_;refine qm ?_;refine qe hK ?_;refine qj fun K hK => ?_;refine qm ?_;refine qA ?_;refine qm ?_;refine qe hK ?_;exact ⟨mm - 1,by omega,⟨i + 1,g + 1,rfl,hH,by omega,by omega,hcp⟩⟩
   ·rw [if_neg h6] at hcp;refine EvC.skip ?_;refine qj fun K hK => ?_;refine qm ?_;refine qA ?_;refine qm ?_;refine qe hK ?_;exact ⟨mm - 1,by omega,⟨i + 1,g,rfl,hH,by omega,by omega,hcp⟩⟩
  ·refine EvC.exit ?_;refine qq ?_;refine qj fun K hK => ?_;refine qm ?_;refine qe hK ?_;refine EvC.ret ⟨rx,_,_,rfl,rl hSb hH (rfl),?_⟩;rw [List.drop_eq_nil_of_le (by omega)] at hcp;rw [<- hcp]
   rfl
theorem and_low {w a j : Nat} (ha : a < 2 ^ w) (hj : 2 ^ j - 1 < 2 ^ w) : (BitVec.ofInt w (a : Int) &&& BitVec.ofInt w ((2 ^ j - 1 : Nat) : Int)).toNat = a % 2 ^ j := by
 rw [bv_and ha hj,Nat.and_two_pow_sub_one_eq_mod]
theorem six0 {r y : Nat} (hr : r < 33554432) (hy : y < 256) : wrapD .i32 ((BitVec.ofInt 32 (wrapD .i32 ((r : Int) * 2 ^ (min (Int.toNat 6) 32))) ||| BitVec.ofInt 32 (wrapD .i32 (wrapD .u8 ((BitVec.ofInt 8 (y : Int) &&& BitVec.ofInt 8 63).toNat : Nat)))).toNat : Nat) = ((r * 64 + y % 64 : Nat) : Int) := by
 have h1 : (BitVec.ofInt 8 (y : Int) &&& BitVec.ofInt 8 63).toNat = y % 64 := and_low (w := 8) (j := 6) hy (by decide);rw [h1]
 have h2 : ((r : Int) * 2 ^ (min (Int.toNat 6) 32)) = ((r * 64 : Nat) : Int) := by
  have : (2 : Int) ^ (min (Int.toNat 6) 32) = 64 := by decide
  rw [this]; simp
 rw [h2,wrap_nat (k := .i32) (m := r * 64) (by simp only [maxN]; omega),wrap_nat (k := .u8) (m := y % 64) (by simp only [maxN]; omega),wrap_nat (k := .i32) (m := y % 64) (by simp only [maxN]; omega)];rw [bv_or (by omega) (by omega)]
 have h3 : (r * 64) ||| (y % 64) = r * 64 + y % 64 := by
  have := Nat.two_pow_add_eq_or_of_lt (i := 6) (b := y % 64) (by omega) r;have e : (2 : Nat) ^ 6 = 64 := by decide
  rw [e] at this;rw [Nat.mul_comm r 64,this]
 rw [h3,wrap_nat (k := .i32) (m := r * 64 + y % 64) (by simp only [maxN]; omega)]
theorem six {r y : Nat} (hr : r < 33554432) (hy : y < 256) : wrapD .i32 ((BitVec.ofInt IntKind.i32.bits (wrapD .i32 ((r : Int) * 2 ^ (min (Int.toNat 6) IntKind.i32.bits))) ||| BitVec.ofInt IntKind.i32.bits (wrapD .i32 (wrapD .u8 ((BitVec.ofInt IntKind.u8.bits (y : Int) &&& BitVec.ofInt IntKind.u8.bits 63).toNat : Nat)))).toNat : Nat) = ((r * 64 + y % 64 : Nat) : Int) := six0 hr hy
def isS (gs : List (Nat × Nat)) (i : Nat) (r : Int) : Bool := match gs[i]? with
 | some g => ((g.1 : Nat) : Int) == r
 | none => false
noncomputable def makeR (l : List Rg) : List Rg := @dite _ (∃ a,MakeIs l a) (Classical.propDecidable _) (fun h => Classical.choose h) (fun _ => [])
theorem ranges_sl (l : List Rg) : SlD (rangesV l) 2 (l.map rangeC) := by
 rw [<- rangesV_el];refine SlD.frozen ?_ ?_
 ·intro e he; obtain ⟨x,_,rfl⟩ := List.mem_map.1 he; rfl
 ·intro e he d hd;obtain ⟨x,_,rfl⟩ := List.mem_map.1 he;simp only [rangeC,List.mem_cons,List.not_mem_nil,or_false] at hd
  rcases hd with rfl | rfl <;> rfl
def NdV (n : Nod) : Prop := n.rd = rangesV n.rs /\ n.rs.length <= 1048576 /\ n.kids <= 1048576
def nlD (l : List Nod) : D := .sl ((l.map nodC).map (elD 7))
structure Lab (X : Nat -> Prop) (c : List PIns) (b : Nat) (A : Nat -> Prop) (g : Nat -> Nat -> Prop) : Prop where
  hd : g b = A
  tl : g (b + c.length) = A
  xs : ∀ n,X n -> b <= n -> n <= b + c.length -> g n = A
  st : ∀ j i,c[j]? = some i -> (∀ v ∈ nextS (b + j) i, ∃ n : Nat,v = (n : Int) /\ ((b <= n /\ n <= b + c.length /\ ∀ s,g n s -> g (b + j) s \/ (i.op = 4 /\ i.x = (s : Int))) \/ (X n /\ ∀ s,A s -> g (b + j) s \/ (i.op = 4 /\ i.x = (s : Int))))) /\
    i.op ≠ 7 /\ (i.op = 4 -> ∃ k : Nat,1 <= k /\ (i.x = ((2 * k : Nat) : Int) \/ (i.x = ((2 * k + 1 : Nat) : Int) /\ g (b + j) (2 * k))))
theorem Lab.nil (X : Nat -> Prop) (b : Nat) (A : Nat -> Prop) : Lab X [] b A fun _ => A := ⟨rfl,rfl,fun _ _ _ _ => rfl,fun j i h => by simp at h⟩
theorem Lab.one {X : Nat -> Prop} {b : Nat} {A : Nat -> Prop} {i : PIns} (h4 : i.op ≠ 4) (h7 : i.op ≠ 7) (h : ∀ v ∈ nextS b i, ∃ n : Nat,v = (n : Int) /\ (n = b + 1 \/ X n)) : Lab X [i] b A fun _ => A := by
  refine ⟨rfl,rfl,fun _ _ _ _ => rfl,fun j i' hj => ?_⟩
  cases j with
  | succ j => simp at hj
  | zero =>
    simp only [List.getElem?_cons_zero,Option.some.injEq] at hj
    subst hj
    refine ⟨fun v hv => ?_,h7,fun h => absurd h h4⟩
    obtain ⟨n,h1,h2⟩ := h v hv
    refine ⟨n,h1,?_⟩
    rcases h2 with rfl | h2
    · exact .inl ⟨by omega,by simp,fun s hs => .inl hs⟩
    · exact .inr ⟨h2,fun s hs => .inl hs⟩
theorem Lab.widen {X Y : Nat -> Prop} {c : List PIns} {b : Nat} {A : Nat -> Prop} {g : Nat -> Nat -> Prop} (h : Lab X c b A g) (h1 : ∀ n,X n -> Y n) (h2 : ∀ n,Y n -> X n \/ n <= b \/ b + c.length <= n) : Lab Y c b A g := by
  refine ⟨h.hd,h.tl,fun n hn h3 h4 => ?_,fun j i hj => ⟨fun v hv => ?_,(h.st j i hj).2⟩⟩
  · rcases h2 n hn with h5 | h5 | h5
    · exact h.xs n h5 h3 h4
    · rw [show n = b by omega]; exact h.hd
    · rw [show n = b + c.length by omega]; exact h.tl
  · obtain ⟨n,e,h5⟩ := (h.st j i hj).1 v hv
    refine ⟨n,e,?_⟩
    rcases h5 with h5 | ⟨h5,h6⟩
    · exact .inl h5
    · exact .inr ⟨h1 n h5,h6⟩
theorem Lab.close {X Y : Nat -> Prop} {c : List PIns} {b : Nat} {A : Nat -> Prop} {g : Nat -> Nat -> Prop} (h : Lab X c b A g) (h1 : ∀ n,Y n -> X n) (h2 : ∀ n,X n -> Y n \/ (b <= n /\ n <= b + c.length)) : Lab Y c b A g := by
  refine ⟨h.hd,h.tl,fun n hn => h.xs n (h1 n hn),fun j i hj => ⟨fun v hv => ?_,(h.st j i hj).2⟩⟩
  obtain ⟨n,e,h5⟩ := (h.st j i hj).1 v hv
  refine ⟨n,e,?_⟩
  rcases h5 with h5 | ⟨h5,h6⟩
  · exact .inl h5
  · rcases h2 n h5 with h7 | ⟨h7,h8⟩
    · exact .inr ⟨h7,h6⟩
    · exact .inl ⟨h7,h8,fun s hs => h6 s (by rw [h.xs n h5 h7 h8] at hs; exact hs)⟩
theorem Lab.append {X : Nat -> Prop} {c d : List PIns} {b e : Nat} {A : Nat -> Prop} {g f : Nat -> Nat -> Prop} (h : Lab X c b A g) (he : e = b + c.length) (k : Lab X d e A f) : Lab X (c ++ d) b A fun n => if n < e then g n else f n := by
  subst he
  have hm : ∀ n,b + c.length = n -> g n = f n := fun n hn => by subst hn; rw [h.tl,k.hd]
  refine ⟨?_,?_,fun n hn h1 h2 => ?_,fun j i hj => ?_⟩
  · show (if b < b + c.length then g b else f b) = A
    split
    · exact h.hd
    · rw [show b = b + c.length by omega]; exact k.hd
  · show (if b + (c ++ d).length < b + c.length then g _ else f _) = A
    rw [if_neg (by rw [List.length_append]; omega),List.length_append, <- Nat.add_assoc]; exact k.tl
  · show (if n < b + c.length then g n else f n) = A
    rw [List.length_append] at h2
    split
    · exact h.xs n hn h1 (by omega)
    · exact k.xs n hn (by omega) (by omega)
  · by_cases hjl : j < c.length
    · rw [List.getElem?_append_left hjl] at hj
      obtain ⟨h1,h2⟩ := h.st j i hj
      have hg : (if b + j < b + c.length then g (b + j) else f (b + j)) = g (b + j) := if_pos (by omega)
      simp only [hg]
      refine ⟨fun v hv => ?_,h2⟩
      obtain ⟨n,e1,h3⟩ := h1 v hv
      refine ⟨n,e1,?_⟩
      rcases h3 with ⟨h3,h4,h5⟩ | h3
      · refine .inl ⟨h3,by rw [List.length_append]; omega,fun s hs => h5 s ?_⟩
        split at hs
        · exact hs
        · rw [hm n (by omega)]; exact hs
      · exact .inr h3
    · rw [List.getElem?_append_right (by omega)] at hj
      obtain ⟨h1,h2⟩ := k.st (j - c.length) i hj
      have hjj : b + c.length + (j - c.length) = b + j := by omega
      rw [hjj] at h1 h2
      have hg : (if b + j < b + c.length then g (b + j) else f (b + j)) = f (b + j) := if_neg (by omega)
      simp only [hg]
      refine ⟨fun v hv => ?_,h2⟩
      obtain ⟨n,e1,h3⟩ := h1 v hv
      refine ⟨n,e1,?_⟩
      rcases h3 with ⟨h3,h4,h5⟩ | h3
      · refine .inl ⟨by omega,by rw [List.length_append]; omega,fun s hs => h5 s ?_⟩
        rw [if_neg (by omega)] at hs
        exact hs
      · exact .inr h3
theorem Lab.group {c : List PIns} {b : Nat} {A : Nat -> Prop} {g : Nat -> Nat -> Prop} {k : Nat} {q w : PIns} (hk : 1 <= k) (hq : q.op = 4 /\ q.x = ((2 * k : Nat) : Int)) (hw : w.op = 4 /\ w.x = ((2 * k + 1 : Nat) : Int)) (h : Lab (fun _ => False) c (b + 1) (fun s => A s \/ s = 2 * k) g) :
    Lab (fun _ => False) (q :: (c ++ [w])) b A fun n => if n <= b \/ b + 1 + c.length < n then A else g n := by
  have hnx : ∀ (i : PIns) (m : Nat),i.op = 4 -> nextS m i = [((m + 1 : Nat) : Int)] := fun i m hi => by unfold nextS; rw [if_neg (by omega),if_neg (by omega),if_neg (by omega)]
  refine ⟨if_pos (.inl (by omega)),if_pos (.inr (by simp; omega)),fun n hn => hn.elim,fun j i hj => ?_⟩
  cases j with
  | zero =>
    simp only [List.getElem?_cons_zero,Option.some.injEq] at hj
    subst hj
    refine ⟨fun v hv => ?_,by rw [hq.1]; decide,fun _ => ⟨k,hk, .inl hq.2⟩⟩
    rw [hnx q _ hq.1] at hv
    simp only [List.mem_cons,List.not_mem_nil,or_false] at hv
    subst hv
    refine ⟨b + 0 + 1,rfl, .inl ⟨by omega,by simp,fun s hs => ?_⟩⟩
    rw [if_neg (by omega)] at hs
    rw [show b + 0 + 1 = b + 1 by omega,h.hd] at hs
    rcases hs with hs | rfl
    · exact .inl (by rw [if_pos (.inl (by omega))]; exact hs)
    · exact .inr ⟨hq.1,hq.2⟩
  | succ j =>
    rw [List.getElem?_cons_succ] at hj
    by_cases hjl : j < c.length
    · rw [List.getElem?_append_left hjl] at hj
      obtain ⟨h1,h2⟩ := h.st j i hj
      have hjj : b + 1 + j = b + (j + 1) := by omega
      rw [hjj] at h1 h2
      have hg : (if b + (j + 1) <= b \/ b + 1 + c.length < b + (j + 1) then A else g (b + (j + 1))) = g (b + (j + 1)) := if_neg (by omega)
      simp only [hg]
      refine ⟨fun v hv => ?_,h2⟩
      obtain ⟨n,e1,h3⟩ := h1 v hv
      refine ⟨n,e1,?_⟩
      rcases h3 with ⟨h3,h4,h5⟩ | ⟨h3,_⟩
      · refine .inl ⟨by omega,by simp; omega,fun s hs => h5 s ?_⟩
        rw [if_neg (by omega)] at hs
        exact hs
      · exact h3.elim
    · rw [List.getElem?_append_right (by omega)] at hj
      have hjc : j = c.length := by
        rcases Nat.eq_or_lt_of_le (show c.length <= j by omega) with h' | h'
        · exact h'.symm
        · rw [List.getElem?_eq_none (by simp; omega)] at hj; cases hj
      subst hjc
      simp only [Nat.sub_self,List.getElem?_cons_zero,Option.some.injEq] at hj
      subst hj
      have hg : (if b + (c.length + 1) <= b \/ b + 1 + c.length < b + (c.length + 1) then A else g (b + (c.length + 1))) = g (b + (c.length + 1)) := if_neg (by omega)
      have ht : g (b + (c.length + 1)) = fun s => A s \/ s = 2 * k := by rw [<- h.tl]; congr 1; omega
      refine ⟨fun v hv => ?_,by rw [hw.1]; decide,fun _ => ⟨k,hk, .inr ⟨hw.2,by rw [hg,ht]; exact .inr rfl⟩⟩⟩
      rw [hnx w _ hw.1] at hv
      simp only [List.mem_cons,List.not_mem_nil,or_false] at hv
      subst hv
      refine ⟨b + (c.length + 1) + 1,rfl, .inl ⟨by omega,by simp; omega,fun s hs => ?_⟩⟩
      rw [if_pos (.inr (by omega))] at hs
      rw [hg,ht]
      exact .inl (.inl hs)
theorem Lab.jp {b e : Nat} {X : Nat -> Prop} (A : Nat -> Prop) (he : X e) : Lab X [jpI e] b A fun _ => A := by
  refine Lab.one (by simp [jpI,mkI]) (by simp [jpI,mkI]) fun v hv => ?_
  simp only [nextS,jpI,mkI,if_true,List.mem_cons,List.not_mem_nil,or_false] at hv
  rw [if_neg (by decide)] at hv
  simp only [List.mem_cons,List.not_mem_nil,or_false] at hv
  exact ⟨e,hv, .inr he⟩
theorem Lab.sp {b o : Nat} {lz : Bool} {X : Nat -> Prop} (A : Nat -> Prop) (he : X o) : Lab X [spI b o lz] b A fun _ => A := by
  have h2 : (spI b o lz).op = 2 := by unfold spI; split <;> rfl
  refine Lab.one (by omega) (by omega) fun v hv => ?_
  unfold nextS at hv
  rw [if_pos h2] at hv
  unfold spI at hv
  split at hv
  · simp only [mkI,List.mem_cons,List.not_mem_nil,or_false] at hv
    rcases hv with rfl | rfl
    · exact ⟨o,rfl, .inr he⟩
    · exact ⟨b + 1,rfl, .inl rfl⟩
  · simp only [mkI,List.mem_cons,List.not_mem_nil,or_false] at hv
    rcases hv with rfl | rfl
    · exact ⟨b + 1,rfl, .inl rfl⟩
    · exact ⟨o,rfl, .inr he⟩
def Labd (X : Nat -> Prop) (c : List PIns) (b : Nat) (A : Nat -> Prop) : Prop := ∃ g,Lab X c b A g
theorem Labd.append {X : Nat -> Prop} {c d : List PIns} {b e : Nat} {A : Nat -> Prop} (h : Labd X c b A) (he : e = b + c.length) (k : Labd X d e A) : Labd X (c ++ d) b A := by
  obtain ⟨g,h⟩ := h; obtain ⟨f,k⟩ := k; exact ⟨_,h.append he k⟩
theorem repC_lab {A : Nat -> Prop} {c : Nat -> List PIns} {z : Nat} (hl : ∀ b,(c b).length = z) (hc : ∀ b,Labd (fun _ => False) (c b) b A) : ∀ k b,Labd (fun _ => False) (repC c z k b) b A
  | 0,b => ⟨_, .nil _ b A⟩
  | k + 1,b => (hc b).append (by rw [hl]) (repC_lab hl hc k (b + z))
theorem optC_lab {A : Nat -> Prop} {c : Nat -> List PIns} {z e : Nat} {lz : Bool} (hl : ∀ b,(c b).length = z) (hc : ∀ b,Labd (fun _ => False) (c b) b A) : ∀ k b,b + k * (z + 1) <= e -> Labd (fun n => n = e) (optC (fun s => spI s e lz) c z k b) b A
  | 0,b,_ => ⟨_, .nil _ b A⟩
  | k + 1,b,he => by
    rw [Nat.add_mul] at he
    obtain ⟨g,hg⟩ := hc (b + 1)
    have h1 : Labd (fun n => n = e) (c (b + 1)) (b + 1) A := ⟨g,hg.widen (fun n h => h.elim) fun n h => .inr (.inr (by rw [hl]; omega))⟩
    have h2 := h1.append (e := b + 1 + z) (by rw [hl]) (optC_lab (lz := lz) hl hc k (b + 1 + z) (by omega))
    exact Labd.append (c := [_]) ⟨_,Lab.sp A rfl⟩ (e := b + 1) rfl h2
theorem Labd.widen {X Y : Nat -> Prop} {c : List PIns} {b : Nat} {A : Nat -> Prop} (h : Labd X c b A) (h1 : ∀ n,X n -> Y n) (h2 : ∀ n,Y n -> X n \/ n <= b \/ b + c.length <= n) : Labd Y c b A := by
  obtain ⟨g,h⟩ := h; exact ⟨g,h.widen h1 h2⟩
theorem Labd.close {X Y : Nat -> Prop} {c : List PIns} {b : Nat} {A : Nat -> Prop} (h : Labd X c b A) (h1 : ∀ n,Y n -> X n) (h2 : ∀ n,X n -> Y n \/ (b <= n /\ n <= b + c.length)) : Labd Y c b A := by
  obtain ⟨g,h⟩ := h; exact ⟨g,h.close h1 h2⟩
theorem rptC_lab {A : Nat -> Prop} {n : Nod} {c : Nat -> List PIns} {z : Nat} (hl : ∀ b,(c b).length = z) (hc : ∀ b,Labd (fun _ => False) (c b) b A) (b : Nat) : Labd (fun _ => False) (rptC n c z b) b A := by
  have hr := repC_lab hl hc n.mn.toNat b
  have hrl : (repC c z n.mn.toNat b).length = n.mn.toNat * z := repC_len hl _ _
  unfold rptC
  split
  · refine hr.append (e := b + n.mn.toNat * z) (by rw [hrl]) ?_
    generalize b + n.mn.toNat * z = s
    have h1 : Labd (fun n => n = s \/ n = s + z + 2) (c (s + 1)) (s + 1) A := (hc (s + 1)).widen (fun n h => h.elim) fun n h => by rw [hl]; omega
    have h2 : Labd (fun n => n = s \/ n = s + z + 2) [jpI s] (s + 1 + z) A := ⟨_,Lab.jp A (.inl rfl)⟩
    have h3 := Labd.append (c := [spI s (s + z + 2) n.lz]) (b := s) ⟨_,Lab.sp A (.inr rfl)⟩ (e := s + 1) rfl (h1.append (by rw [hl]) h2)
    refine Labd.close h3 (fun n h => h.elim) fun n h => .inr ?_
    simp only [List.length_append,List.length_cons,List.length_nil,hl]
    omega
  · refine hr.append (e := b + n.mn.toNat * z) (by rw [hrl]) ?_
    generalize b + n.mn.toNat * z = s
    have h1 := optC_lab (lz := n.lz) (e := s + (n.mx.toNat - n.mn.toNat) * (z + 1)) hl hc (n.mx.toNat - n.mn.toNat) s (Nat.le_refl _)
    refine Labd.close h1 (fun n h => h.elim) fun n h => .inr ?_
    rw [optC_len hl]
    omega
mutual
theorem codeT_lab : ∀ (t : Tr) (b : Nat) (A : Nat -> Prop),t.ok -> Labd (fun _ => False) (codeT t b) b A
  | .mk n ks,b,A,h => by
    have hlen := codeT_len (.mk n ks) b h
    simp only [Tr.ok] at h
    obtain ⟨h1,h2⟩ := h
    have hcl := fun b => catT_len ks b h2
    have hnx : ∀ (op x y : Int) (rs : List Rg) (m : Nat),op ≠ 2 -> op ≠ 3 -> op ≠ 7 -> ∀ v ∈ nextS m (mkI op x y rs), ∃ n : Nat,v = (n : Int) /\ (n = m + 1 \/ False) := by
      intro op x y rs m a1 a2 a3 v hv
      unfold nextS at hv
      rw [if_neg (show ¬ (mkI op x y rs).op = 2 from a1),if_neg (show ¬ (mkI op x y rs).op = 3 from a2),if_neg (show ¬ (mkI op x y rs).op = 7 from a3)] at hv
      simp only [List.mem_cons,List.not_mem_nil,or_false] at hv
      exact ⟨m + 1,hv, .inl rfl⟩
    simp only [codeT]
    split
    · exact ⟨_,Lab.one (by simp [mkI]) (by simp [mkI]) (hnx 1 0 0 _ b (by decide) (by decide) (by decide))⟩
    · split
      · exact ⟨_,Lab.one (by simp [mkI]) (by simp [mkI]) (hnx 5 0 0 _ b (by decide) (by decide) (by decide))⟩
      · split
        · exact ⟨_,Lab.one (by simp [mkI]) (by simp [mkI]) (hnx 6 0 0 _ b (by decide) (by decide) (by decide))⟩
        · split
          · exact catT_lab ks b A h2
          · split
            · rename_i h4
              have hz : nodSz n ks.sz ks.len = ks.sz + 2 * (ks.len - 1) := by unfold nodSz; rw [if_neg (by omega),if_pos h4]
              have ha := altT_len (jpI (b + nodSz n ks.sz ks.len)) ks b h2
              refine Labd.close (X := fun m => m = b + nodSz n ks.sz ks.len) ?_ (fun n h => h.elim) fun m hm => .inr ?_
              · exact altT_lab _ ks b A h2 (by rw [ha,hz]; omega)
              · rw [ha]; rw [hz] at hm; omega
            · split
              · exact rptC_lab hcl (fun b => catT_lab ks b A h2) b
              · split
                · rename_i h6
                  obtain ⟨g,hg⟩ := catT_lab ks (b + 1) (fun s => A s \/ s = 2 * n.cap.toNat) h2
                  have hcap : 1 <= n.cap := by
                    rcases h1.2 with h | h | h | h | h <;> omega
                  exact ⟨_,Lab.group (k := n.cap.toNat) (by omega) ⟨rfl,by show 2 * n.cap = _; omega⟩ ⟨rfl,by show 2 * n.cap + 1 = _; omega⟩ hg⟩
                · exact ⟨_, .nil _ b A⟩
theorem catT_lab : ∀ (ts : Trs) (b : Nat) (A : Nat -> Prop),ts.ok -> Labd (fun _ => False) (catT ts b) b A
  | .nil,b,A,_ => by simp only [catT]; exact ⟨_, .nil _ b A⟩
  | .cons t ts,b,A,h => by
    simp only [Trs.ok] at h
    simp only [catT]
    exact (codeT_lab t b A h.1).append (by rw [codeT_len t b h.1]) (catT_lab ts (b + t.sz) A h.2)
theorem altT_lab (e : Nat) : ∀ (ts : Trs) (b : Nat) (A : Nat -> Prop),ts.ok -> b + (altT (jpI e) ts b).length <= e -> Labd (fun n => n = e) (altT (jpI e) ts b) b A
  | .nil,b,A,_,_ => by simp only [altT]; exact ⟨_, .nil _ b A⟩
  | .cons t ts,b,A,h,he => by
    simp only [Trs.ok] at h
    simp only [altT] at he ⊢
    split
    · rename_i h0
      rw [if_pos h0] at he
      exact (codeT_lab t b A h.1).widen (fun n h => h.elim) fun n hn => .inr (.inr (by omega))
    · rename_i h0
      rw [if_neg h0] at he
      simp only [List.length_cons,List.length_append,codeT_len t (b + 1) h.1] at he
      have h1 : Labd (fun n => n = e \/ n = b + 1 + t.sz + 1) (codeT t (b + 1)) (b + 1) A := (codeT_lab t (b + 1) A h.1).widen (fun n h => h.elim) fun n hn => .inr (.inr (by rw [codeT_len t (b + 1) h.1]; omega))
      have h2 : Labd (fun n => n = e \/ n = b + 1 + t.sz + 1) (altT (jpI e) ts (b + t.sz + 2)) (b + t.sz + 2) A := (altT_lab e ts (b + t.sz + 2) A h.2 (by omega)).widen (fun n h => .inl h) fun n hn => by omega
      have h3 : Labd (fun n => n = e \/ n = b + 1 + t.sz + 1) (jpI e :: altT (jpI e) ts (b + t.sz + 2)) (b + 1 + t.sz) A := Labd.append (c := [jpI e]) ⟨_,Lab.jp A (.inl rfl)⟩ (e := b + t.sz + 2) (by simp only [List.length_cons,List.length_nil]; omega) h2
      have h4 := Labd.append (c := [spI b (b + 1 + t.sz + 1) false]) (b := b) ⟨_,Lab.sp A (.inr rfl)⟩ (e := b + 1) rfl (h1.append (by rw [codeT_len t (b + 1) h.1]) h3)
      refine Labd.close h4 (fun n h => .inl h) fun n hn => ?_
      rcases hn with hn | hn
      · exact .inl hn
      · refine .inr ?_
        simp only [List.length_append,List.length_cons,List.length_nil,codeT_len t (b + 1) h.1]
        omega
end
theorem compS_ok : ∀ (ls : List (List Nod)) (r : Nat) (c : List PIns) (s : List Int),(∀ l ∈ ls, ∀ n ∈ l,n.rs.length <= 1048576) -> (∀ i ∈ c,InsV i) -> c.length <= 400 -> s.length <= r -> (∀ i ∈ (compS ls r c s).code,InsV i) /\ (compS ls r c s).code.length <= 400 /\ (compS ls r c s).starts.length <= r + ls.length
 | [],r,c,s,_,h1,h2,h3 => by rw [compS_nil]; exact ⟨h1,h2,by simpa using h3⟩
 | l :: ls,r,c,s,h0,h1,h2,h3 => by
  have hem : ∀ e w : Int,(∀ i ∈ (CompR.mk [] [] e w).code,InsV i) /\ (CompR.mk [] [] e w).code.length <= 400 /\ (CompR.mk [] [] e w).starts.length <= r + (l :: ls).length := fun e w => ⟨fun i hi => (by cases hi),by simp,by simp⟩
  rw [compS]
  split
  ·exact hem _ _
  ·rename_i hr;rw [Bool.not_eq_false] at hr
   split
   ·exact hem _ _
   ·rename_i hb;obtain ⟨t1,t2⟩ := tree_is hr
    obtain ⟨h4,h5,h6⟩ := compS_ok ls (r + 1) (c ++ ruleC (treeN l) c.length r) (s ++ [((c.length : Nat) : Int)]) (fun l' hl' => h0 l' (List.mem_cons_of_mem _ hl')) (fun i hi => by
     rcases List.mem_append.1 hi with hi | hi
     ·exact h1 i hi
     ·exact ruleC_v (by rw [t2]; exact h0 l (List.mem_cons_self ..)) i hi) (by rw [List.length_append,ruleC_len t1]; omega) (by rw [List.length_append]; simp only [List.length_cons,List.length_nil]; omega)
    exact ⟨h4,h5,by simp only [List.length_cons]; omega⟩
theorem compileS_ok {ls : List (List Nod)} (h : ∀ l ∈ ls, ∀ n ∈ l,n.rs.length <= 1048576) : (pgV (compileS ls).code (compileS ls).starts).ok /\ (compileS ls).code.length <= 400 := by
 unfold compileS
 split
 ·exact ⟨pgV_ok (fun i hi => (by cases hi)) (by simp) (by simp),by simp⟩
 ·obtain ⟨h1,h2,h3⟩ := compS_ok ls 0 [] [] h (fun i hi => by cases hi) (by simp) (by simp);exact ⟨pgV_ok h1 (by omega) (by omega),h2⟩
def Trs.l : Trs -> List Tr
  | .nil => []
  | .cons t ts => t :: ts.l
def trsOf : List Tr -> Trs
  | [] => .nil
  | t :: l => .cons t (trsOf l)
theorem trs_of : ∀ ks : Trs,trsOf ks.l = ks
  | .nil => rfl
  | .cons t ts => by simp only [Trs.l,trsOf,trs_of ts]
theorem trs_l : ∀ l : List Tr,(trsOf l).l = l
  | [] => rfl
  | t :: l => by simp only [Trs.l,trsOf,trs_l l]
theorem trs_len : ∀ ks : Trs,ks.l.length = ks.len
  | .nil => rfl
  | .cons t ts => by simp only [Trs.l,Trs.len,List.length_cons,trs_len ts]
def Tr.n : Tr -> Nod
  | .mk n _ => n
def Tr.ks : Tr -> List Tr
  | .mk _ ks => ks.l
mutual
def Tr.c : Tr -> List D
  | .mk n ks => [.int .i64 n.op,n.rd, .int .i64 n.mn, .int .i64 n.mx, .bool n.lz, .int .i64 n.cap, .int .i64 n.kids, .sl ks.ds]
def Trs.ds : Trs -> List D
  | .nil => []
  | .cons t ts => .agg t.c :: ts.ds
end
theorem trs_ds : ∀ ks : Trs,ks.ds = (ks.l.map Tr.c).map (elD 8)
  | .nil => by simp [Trs.ds,Trs.l]
  | .cons t ts => by simp only [Trs.ds,Trs.l,List.map_cons,trs_ds ts]; rfl
def kidD (l : List Tr) : D := .sl ((l.map Tr.c).map (elD 8))
def trC (n : Nod) (x : D) : List D := [.int .i64 n.op,n.rd, .int .i64 n.mn, .int .i64 n.mx, .bool n.lz, .int .i64 n.cap, .int .i64 n.kids,x]
theorem Tr.c_eq (t : Tr) : t.c = trC t.n (kidD t.ks) := by
  cases t with
  | mk n ks => simp only [Tr.c,trC,Tr.n,Tr.ks,kidD,trs_ds]
mutual
def Tr.fa (P : Nod -> Prop) : Tr -> Prop
  | .mk n ks => P n /\ ks.fa P
def Trs.fa (P : Nod -> Prop) : Trs -> Prop
  | .nil => True
  | .cons t ts => t.fa P /\ ts.fa P
end
theorem trs_fa {P : Nod -> Prop} : ∀ {ks : Trs},ks.fa P ↔ ∀ t ∈ ks.l,t.fa P
  | .nil => by simp [Trs.fa,Trs.l]
  | .cons t ts => by simp only [Trs.fa,Trs.l,List.mem_cons,forall_eq_or_imp,trs_fa (ks := ts)]
theorem Tr.fa_eq {P : Nod -> Prop} {t : Tr} : t.fa P ↔ P t.n /\ ∀ k ∈ t.ks,k.fa P := by
  cases t with
  | mk n ks => simp only [Tr.fa,Tr.n,Tr.ks,trs_fa]
theorem mk_fa {P : Nod -> Prop} {n : Nod} {l : List Tr} : (Tr.mk n (trsOf l)).fa P ↔ P n /\ ∀ k ∈ l,k.fa P := by
  rw [Tr.fa_eq]; simp only [Tr.n,Tr.ks,trs_l]
mutual
theorem Tr.fa_flat {P : Nod -> Prop} : ∀ (t : Tr),t.fa P ↔ ∀ n ∈ t.flat,P n
  | .mk n ks => by simp only [Tr.fa,Tr.flat,List.mem_cons,forall_eq_or_imp,Trs.fa_flat ks]
theorem Trs.fa_flat {P : Nod -> Prop} : ∀ (ts : Trs),ts.fa P ↔ ∀ n ∈ ts.flat,P n
  | .nil => by simp [Trs.fa,Trs.flat]
  | .cons t ts => by simp only [Trs.fa,Trs.flat,List.mem_append,or_imp,forall_and,Tr.fa_flat t,Trs.fa_flat ts]
end
mutual
def Tr.cnt : Tr -> Nat
  | .mk n ks => ks.cnt + 1
def Trs.cnt : Trs -> Nat
  | .nil => 0
  | .cons t ts => t.cnt + ts.cnt
end
def cntL (l : List Tr) : Nat := (l.map Tr.cnt).sum
theorem trs_cnt : ∀ ks : Trs,ks.cnt = cntL ks.l
  | .nil => rfl
  | .cons t ts => by simp only [Trs.cnt,Trs.l,cntL,List.map_cons,List.sum_cons,trs_cnt ts]
theorem Tr.cnt_eq (t : Tr) : t.cnt = cntL t.ks + 1 := by
  cases t with
  | mk n ks => simp only [Tr.cnt,Tr.ks,trs_cnt]
theorem mk_cnt (n : Nod) (l : List Tr) : (Tr.mk n (trsOf l)).cnt = cntL l + 1 := by
  rw [Tr.cnt_eq]; simp only [Tr.ks,trs_l]
mutual
theorem Tr.cnt_flat : ∀ t : Tr,t.flat.length = t.cnt
  | .mk n ks => by simp only [Tr.flat,Tr.cnt,List.length_cons,Trs.cnt_flat ks]
theorem Trs.cnt_flat : ∀ ts : Trs,ts.flat.length = ts.cnt
  | .nil => rfl
  | .cons t ts => by simp only [Trs.flat,Trs.cnt,List.length_append,Tr.cnt_flat t,Trs.cnt_flat ts]
end
theorem cntL_app (a b : List Tr) : cntL (a ++ b) = cntL a + cntL b := by unfold cntL; rw [List.map_append,List.sum_append]
theorem cntL_cons (t : Tr) (b : List Tr) : cntL (t :: b) = t.cnt + cntL b := by unfold cntL; rw [List.map_cons,List.sum_cons]
theorem cntL_len : ∀ l : List Tr,l.length <= cntL l
  | [] => Nat.le_refl _
  | t :: l => by have := cntL_len l; have := Tr.cnt_eq t; rw [cntL_cons,List.length_cons]; omega
theorem cntL_mem {l : List Tr} {t : Tr} (h : t ∈ l) : t.cnt <= cntL l := by
  induction l with
  | nil => cases h
  | cons x l ih =>
    rw [cntL_cons]
    rcases List.mem_cons.1 h with rfl | h
    · omega
    · have := ih h; omega
mutual
def Tr.same : Tr -> Tr -> Bool
  | .mk n ks, .mk m js => n.op == m.op && n.mn == m.mn && n.mx == m.mx && n.lz == m.lz && n.cap == m.cap && n.rs == m.rs && ks.same js
def Trs.same : Trs -> Trs -> Bool
  | .nil, .nil => true
  | .cons t ts, .cons u us => t.same u && ts.same us
  | .nil, .cons _ _ => false
  | .cons _ _, .nil => false
end
mutual
def Tr.grp : Tr -> Bool
  | .mk n ks => n.op == 6 || ks.grp
def Trs.grp : Trs -> Bool
  | .nil => false
  | .cons t ts => t.grp || ts.grp
end
def nd0 (op : Int) : Nod := ⟨op,rangesV [], [],0,0,false,0,0⟩
def tr0 (op : Int) (l : List Tr) : Tr := .mk (nd0 op) (trsOf l)
def spreadT (op : Int) (l : List Tr) : List Tr := l.flatMap fun t => if t.n.op = op then t.ks else [t]
def underT (op : Int) (l : List Tr) : Tr := match l with
  | [] => tr0 1 []
  | [t] => t
  | l => tr0 op l
def onceT (l : List Tr) : List Tr := l.foldl (fun out k => if out.any (fun x => x.same k) = true then out else out ++ [k]) []
noncomputable def clsT (a b : List Rg) : Tr := .mk ⟨2,rangesV (makeR (a ++ b)),makeR (a ++ b),0,0,false,0,0⟩ .nil
noncomputable def joinT (out : List Tr) (k : Tr) : List Tr := match out.getLast? with
  | some t => if k.n.op = 2 /\ t.n.op = 2 then out.set (out.length - 1) (clsT t.n.rs k.n.rs) else out ++ [k]
  | none => out ++ [k]
noncomputable def joinedT (l : List Tr) : List Tr := l.foldl joinT []
noncomputable def altLT : Nat -> List Tr -> List Tr
  | 0,l => l
  | f + 1,l => if (joinedT (onceT l)).length = l.length then l else altLT f (joinedT (onceT l))
def openN (n : Nod) : Bool := n.op == 5 && !n.lz && n.mx == -1 && decide (n.mn <= 1)
def isOp2 (l : List Tr) : Bool := match l with
  | [] => false
  | t :: _ => t.n.op == 2
def rptT (n : Nod) (k : Tr) (l : List Tr) : Tr :=
  if k.n.op = 1 then k
  else if n.mn = 1 /\ n.mx = 1 then k
  else if n.mx = 0 /\ k.grp = false then tr0 1 []
  else if (openN { n with lz := n.lz && n.mn != n.mx } && (openN k.n && isOp2 k.ks)) = true then .mk { k.n with mn := k.n.mn * n.mn } (trsOf k.ks)
  else .mk { n with lz := n.lz && n.mn != n.mx } (trsOf l)
noncomputable def lessN (n : Nod) (l : List Tr) : Tr :=
  if n.op = 3 then underT 3 ((spreadT 3 l).filter fun t => t.n.op != 1)
  else if n.op = 4 then underT 4 (altLT (spreadT 4 l).length (spreadT 4 l))
  else if n.op = 5 then (match l with | k :: _ => rptT n k l | [] => .mk n .nil)
  else .mk n (trsOf l)
mutual
noncomputable def Tr.less : Tr -> Tr
  | .mk n ks => lessN n ks.less
noncomputable def Trs.less : Trs -> List Tr
  | .nil => []
  | .cons t ts => t.less :: ts.less
end
mutual
def Tr.flt : Tr -> List Nod
  | .mk n ks => { n with kids := (ks.len : Nat) } :: ks.flt
def Trs.flt : Trs -> List Nod
  | .nil => []
  | .cons t ts => t.flt ++ ts.flt
end
mutual
theorem Tr.flt_len : ∀ t : Tr,t.flt.length = t.cnt
  | .mk n ks => by simp only [Tr.flt,Tr.cnt,List.length_cons,Trs.flt_len ks]
theorem Trs.flt_len : ∀ ts : Trs,ts.flt.length = ts.cnt
  | .nil => rfl
  | .cons t ts => by simp only [Trs.flt,Trs.cnt,List.length_append,Tr.flt_len t,Trs.flt_len ts]
end
theorem canon_few : ∀ {l : List Rg} {b : Int},canon l -> (∀ x ∈ l,b <= x.1 /\ x.2 <= 1114111) -> 2 * (l.length : Int) <= max 0 (1114113 - b)
  | [],b,_,_ => by simp; omega
  | x :: l,b,hc,hb => by
    obtain ⟨h1,h2,h3⟩ := canon_tail hc
    have hx := hb x (List.mem_cons_self ..)
    have ih := canon_few (b := x.2 + 2) h1 fun y hy => by
      have hy2 := hb y (List.mem_cons_of_mem _ hy)
      have hle := h1.1 y hy
      have := h3 y.1 ⟨y,hy,Int.le_refl _,hle⟩
      omega
    rw [List.length_cons]; omega
theorem makeIs_few {l a : List Rg} (h : MakeIs l a) : a.length <= 557057 := by
  have hb : ∀ x ∈ a,0 <= x.1 /\ x.2 <= 1114111 := fun x hx => by
    have hle := h.1.1 x hx
    have g1 := ((h.2 x.1).1 ⟨x,hx,Int.le_refl _,hle⟩).1
    have g2 := ((h.2 x.2).1 ⟨x,hx,hle,Int.le_refl _⟩).1
    unfold isRune at g1 g2
    omega
  have := canon_few (b := 0) h.1 hb
  omega
def NdR (n : Nod) : Prop := n.rd = rangesV n.rs /\ n.rs.length <= 1048576
def Few (l : List Tr) : Prop := ∀ t ∈ l,t.fa NdR
theorem spread_few {op : Int} {l : List Tr} (h : Few l) : Few (spreadT op l) := by
  intro t ht
  obtain ⟨u,hu,ht⟩ := List.mem_flatMap.1 ht
  split at ht
  · exact (Tr.fa_eq.1 (h u hu)).2 t ht
  · simp only [List.mem_cons,List.not_mem_nil,or_false] at ht
    rw [ht]; exact h u hu
theorem spread_cnt (op : Int) : ∀ l : List Tr,cntL (spreadT op l) <= cntL l
  | [] => Nat.le_refl _
  | t :: l => by
    have := spread_cnt op l
    unfold spreadT at this ⊢
    rw [List.flatMap_cons,cntL_app,cntL_cons]
    have h2 := Tr.cnt_eq t
    split
    · omega
    · simp only [cntL_cons]; unfold cntL at this ⊢; simp only [List.map_nil,List.sum_nil]; omega
theorem filter_cnt (p : Tr -> Bool) : ∀ l : List Tr,cntL (l.filter p) <= cntL l
  | [] => Nat.le_refl _
  | t :: l => by
    have := filter_cnt p l
    rw [List.filter_cons,cntL_cons]
    split
    · rw [cntL_cons]; omega
    · omega
theorem nd0_r (op : Int) : NdR (nd0 op) := ⟨rfl,by simp [nd0]⟩
theorem tr0_fa {op : Int} {l : List Tr} (h : Few l) : (tr0 op l).fa NdR := mk_fa.2 ⟨nd0_r op,h⟩
theorem under_few {op : Int} {l : List Tr} (h : Few l) : (underT op l).fa NdR := by
  unfold underT
  split
  · exact tr0_fa (by intro t ht; cases ht)
  · exact h _ (List.mem_cons_self ..)
  · exact tr0_fa h
theorem under_cnt (op : Int) (l : List Tr) : (underT op l).cnt <= cntL l + 1 := by
  unfold underT
  split
  · unfold tr0; rw [mk_cnt]; omega
  · rw [cntL_cons]; omega
  · unfold tr0; rw [mk_cnt]; omega
theorem fold_ind {α β : Type} {f : β -> α -> β} {P : β -> Prop} {l : List α} (h : ∀ b a,a ∈ l -> P b -> P (f b a)) : ∀ b,P b -> P (l.foldl f b) := by
  induction l with
  | nil => exact fun b hb => hb
  | cons a l ih => exact fun b hb => ih (fun b a ha => h b a (List.mem_cons_of_mem _ ha)) _ (h b a (List.mem_cons_self ..) hb)
theorem once_few {l : List Tr} (h : Few l) : Few (onceT l) := by
  unfold onceT
  refine fold_ind (P := Few) (fun b a ha hb => ?_) _ (by intro t ht; cases ht)
  split
  · exact hb
  · intro t ht
    rcases List.mem_append.1 ht with ht | ht
    · exact hb t ht
    · simp only [List.mem_cons,List.not_mem_nil,or_false] at ht; rw [ht]; exact h a ha
theorem once_cnt' (l : List Tr) : ∀ b,cntL (l.foldl (fun out k => if out.any (fun x => x.same k) = true then out else out ++ [k]) b) <= cntL b + cntL l := by
  induction l with
  | nil => intro b; unfold cntL; simp
  | cons a l ih =>
    intro b
    rw [List.foldl_cons,cntL_cons]
    split
    · have := ih b; omega
    · have := ih (b ++ [a])
      rw [cntL_app,cntL_cons] at this
      unfold cntL at this ⊢
      simp only [List.map_nil,List.sum_nil] at this
      omega
theorem once_cnt (l : List Tr) : cntL (onceT l) <= cntL l := by
  have := once_cnt' l []
  unfold onceT
  unfold cntL at this ⊢
  simp only [List.map_nil,List.sum_nil] at this
  omega
theorem cls_r (a b : List Rg) : (makeR (a ++ b)).length <= 557057 := by
  unfold makeR
  split
  · rename_i h; exact makeIs_few (Classical.choose_spec h)
  · simp
theorem cls_fa (a b : List Rg) : (clsT a b).fa NdR := by
  unfold clsT
  simp only [Tr.fa,Trs.fa,and_true]
  exact ⟨rfl,by have := cls_r a b; show (makeR (a ++ b)).length <= _; omega⟩
theorem cntL_set {l : List Tr} {i : Nat} {t u : Tr} (h : l[i]? = some t) : cntL (l.set i u) + t.cnt = cntL l + u.cnt := by
  induction l generalizing i with
  | nil => simp at h
  | cons x l ih =>
    cases i with
    | zero => simp only [List.getElem?_cons_zero,Option.some.injEq] at h; subst h; rw [List.set_cons_zero,cntL_cons,cntL_cons]; omega
    | succ i => rw [List.set_cons_succ,cntL_cons,cntL_cons]; have := ih (i := i) (by simpa using h); omega
theorem tlast_get {l : List Tr} {t : Tr} (h : l.getLast? = some t) : l[l.length - 1]? = some t := by rw [<- h,List.getLast?_eq_getElem?]
theorem join_cnt (b : List Tr) (a : Tr) : cntL (joinT b a) <= cntL b + a.cnt := by
  unfold joinT
  split
  · rename_i t ht
    split
    · have := cntL_set (u := clsT t.n.rs a.n.rs) (tlast_get ht)
      have h1 : (clsT t.n.rs a.n.rs).cnt = 1 := by unfold clsT; simp [Tr.cnt,Trs.cnt]
      have h2 := Tr.cnt_eq t
      omega
    · rw [cntL_app,cntL_cons]; unfold cntL; simp
  · rw [cntL_app,cntL_cons]; unfold cntL; simp
theorem joined_cnt' (l : List Tr) : ∀ b,cntL (l.foldl joinT b) <= cntL b + cntL l := by
  induction l with
  | nil => intro b; unfold cntL; simp
  | cons a l ih => intro b; rw [List.foldl_cons,cntL_cons]; have := ih (joinT b a); have := join_cnt b a; omega
theorem joined_cnt (l : List Tr) : cntL (joinedT l) <= cntL l := by
  have := joined_cnt' l []
  unfold joinedT
  unfold cntL at this ⊢
  simp only [List.map_nil,List.sum_nil] at this
  omega
theorem join_few {b : List Tr} {a : Tr} (hb : Few b) (ha : a.fa NdR) : Few (joinT b a) := by
  have happ : Few (b ++ [a]) := by
    intro t ht
    rcases List.mem_append.1 ht with ht | ht
    · exact hb t ht
    · simp only [List.mem_cons,List.not_mem_nil,or_false] at ht; rw [ht]; exact ha
  unfold joinT
  split
  · split
    · intro t ht
      rcases List.mem_or_eq_of_mem_set ht with ht | rfl
      · exact hb t ht
      · exact cls_fa _ _
    · exact happ
  · exact happ
theorem joined_few {l : List Tr} (h : Few l) : Few (joinedT l) := by
  unfold joinedT
  exact fold_ind (P := Few) (fun b a ha hb => join_few hb (h a ha)) _ (by intro t ht; cases ht)
theorem altLT_few : ∀ (f : Nat) {l : List Tr},Few l -> Few (altLT f l) /\ cntL (altLT f l) <= cntL l
  | 0,l,h => ⟨h,Nat.le_refl _⟩
  | f + 1,l,h => by
    unfold altLT
    split
    · exact ⟨h,Nat.le_refl _⟩
    · obtain ⟨h1,h2⟩ := altLT_few f (joined_few (once_few h))
      have := joined_cnt (onceT l)
      have := once_cnt l
      exact ⟨h1,by omega⟩
theorem rpt_few {n : Nod} {k : Tr} {l : List Tr} (hn : NdR n) (h : Few l) (hk : k ∈ l) : (rptT n k l).fa NdR := by
  have hkk := h k hk
  unfold rptT
  split
  · exact hkk
  split
  · exact hkk
  split
  · exact tr0_fa (by intro t ht; cases ht)
  split
  · exact mk_fa.2 ⟨(Tr.fa_eq.1 hkk).1,(Tr.fa_eq.1 hkk).2⟩
  · exact mk_fa.2 ⟨hn,h⟩
theorem rpt_cnt {n : Nod} {k : Tr} {l : List Tr} (hk : k ∈ l) : (rptT n k l).cnt <= cntL l + 1 := by
  have := cntL_mem hk
  unfold rptT
  split
  · omega
  split
  · omega
  split
  · unfold tr0; rw [mk_cnt]; unfold cntL; simp
  split
  · rw [mk_cnt]; have := Tr.cnt_eq k; omega
  · rw [mk_cnt]; omega
theorem lessN_few {n : Nod} {l : List Tr} (hn : NdR n) (h : Few l) : (lessN n l).fa NdR /\ (lessN n l).cnt <= cntL l + 1 := by
  unfold lessN
  split
  · have h1 := filter_cnt (fun t => t.n.op != 1) (spreadT 3 l)
    have h2 := spread_cnt 3 l
    have h3 := under_cnt 3 ((spreadT 3 l).filter fun t => t.n.op != 1)
    exact ⟨under_few fun t ht => spread_few h t (List.mem_filter.1 ht).1,by omega⟩
  split
  · obtain ⟨h1,h2⟩ := altLT_few (spreadT 4 l).length (spread_few (op := 4) h)
    have h3 := spread_cnt 4 l
    have h4 := under_cnt 4 (altLT (spreadT 4 l).length (spreadT 4 l))
    exact ⟨under_few h1,by omega⟩
  split
  · cases l with
    | nil => exact ⟨by simp only [Tr.fa,Trs.fa,and_true]; exact hn,by simp [Tr.cnt,Trs.cnt,cntL]⟩
    | cons k l => exact ⟨rpt_few hn h (List.mem_cons_self ..),rpt_cnt (List.mem_cons_self ..)⟩
  · exact ⟨mk_fa.2 ⟨hn,h⟩,by rw [mk_cnt]; omega⟩
mutual
theorem Tr.less_few : ∀ (t : Tr),t.fa NdR -> t.less.fa NdR /\ t.less.cnt <= t.cnt
  | .mk n ks,h => by
    simp only [Tr.fa] at h
    obtain ⟨h1,h2⟩ := Trs.less_few ks h.2
    obtain ⟨h3,h4⟩ := lessN_few h.1 h1
    simp only [Tr.less,Tr.cnt]
    exact ⟨h3,by omega⟩
theorem Trs.less_few : ∀ (ts : Trs),ts.fa NdR -> Few ts.less /\ cntL ts.less <= ts.cnt
  | .nil,_ => ⟨by intro t ht; simp [Trs.less] at ht,by simp [Trs.less,cntL]⟩
  | .cons t ts,h => by
    simp only [Trs.fa] at h
    obtain ⟨h1,h2⟩ := Tr.less_few t h.1
    obtain ⟨h3,h4⟩ := Trs.less_few ts h.2
    simp only [Trs.less,Trs.cnt]
    refine ⟨fun u hu => ?_,by rw [cntL_cons]; omega⟩
    rcases List.mem_cons.1 hu with rfl | hu
    · exact h1
    · exact h3 u hu
end
mutual
theorem Tr.flt_v : ∀ (t : Tr),t.fa NdR -> t.cnt <= 1048576 -> ∀ n ∈ t.flt,NdV n
  | .mk n ks,h,hc => by
    simp only [Tr.fa] at h
    simp only [Tr.cnt] at hc
    have ih := Trs.flt_v ks h.2 (by omega)
    simp only [Tr.flt,List.mem_cons]
    rintro m (rfl | hm)
    · have h1 := trs_len ks
      have h2 := cntL_len ks.l
      rw [<- trs_cnt] at h2
      exact ⟨h.1.1,h.1.2,by show ((ks.len : Nat) : Int) <= _; omega⟩
    · exact ih m hm
theorem Trs.flt_v : ∀ (ts : Trs),ts.fa NdR -> ts.cnt <= 1048576 -> ∀ n ∈ ts.flt,NdV n
  | .nil,_,_ => by simp [Trs.flt]
  | .cons t ts,h,hc => by
    simp only [Trs.fa] at h
    simp only [Trs.cnt] at hc
    have h1 := Tr.flt_v t h.1 (by omega)
    have h2 := Trs.flt_v ts h.2 (by omega)
    simp only [Trs.flt,List.mem_append]
    rintro m (hm | hm)
    · exact h1 m hm
    · exact h2 m hm
end
def tC (t : Tr) : List D := trC t.n (kidD t.ks)
theorem tC_eq : Tr.c = tC := by funext t; exact Tr.c_eq t
theorem kid_eq (l : List Tr) : kidD l = .sl ((l.map tC).map (elD 8)) := by unfold kidD; rw [tC_eq]
theorem t_get {l : List Tr} {i : Nat} {q : Tr} (h : l[i]? = some q) : (l.map tC)[i]? = some (tC q) := by rw [List.getElem?_map,h]; rfl
theorem t_len (l : List Tr) : ∀ e ∈ l.map tC,e.length = 8 := by
 intro e he; obtain ⟨r,_,rfl⟩ := List.mem_map.1 he; rfl
theorem t_plain {l : List Tr} (h : ∀ t ∈ l,t.fa NdR) : ∀ e ∈ l.map tC, ∀ d ∈ e,plainC d = true := by
 intro e he d hd;obtain ⟨r,hr,rfl⟩ := List.mem_map.1 he;have h1 := (Tr.fa_eq.1 (h r hr)).1.1;simp only [tC,trC,kidD,List.mem_cons,List.not_mem_nil,or_false] at hd
 rcases hd with rfl | rfl | rfl | rfl | rfl | rfl | rfl | rfl <;> try rfl
 rw [h1]; rfl
theorem kid_rows (st : St) {l : List Tr} (h : ∀ t ∈ l,t.fa NdR) : V.Rows st 8 (kidD l) (l.map tC) := by
 rw [kid_eq];exact Rows.ofFrozen (t_len l) (t_plain h)
end Go.Proofs.Ytnleclohocdkaaa
namespace Go.V
variable {N : Nat} {S st : St} {H : List Ent}
theorem Has.rot (A B : List Ent) (h : Has N S st (A ++ (B ++ H))) : Has N S st (B ++ (A ++ H)) := by
  refine h.sub (fun i => if i < B.length then i + A.length else if i < B.length + A.length then i - B.length else i) (fun a b e => ?_) fun i e hi => ?_
  · have e' : (if a < B.length then a + A.length else if a < B.length + A.length then a - B.length else a) = (if b < B.length then b + A.length else if b < B.length + A.length then b - B.length else b) := e
    repeat' split at e'
    all_goals omega
  · show (A ++ (B ++ H))[if i < B.length then i + A.length else if i < B.length + A.length then i - B.length else i]? = some e
    by_cases h1 : i < B.length
    · rw [if_pos h1,List.getElem?_append_right (by omega),Nat.add_sub_cancel,List.getElem?_append_left h1]
      rwa [List.getElem?_append_left h1] at hi
    · rw [List.getElem?_append_right (by omega)] at hi
      by_cases h2 : i < B.length + A.length
      · rw [if_neg h1,if_pos h2,List.getElem?_append_left (by omega)]
        rwa [List.getElem?_append_left (by omega)] at hi
      · rw [if_neg h1,if_neg h2,List.getElem?_append_right (by omega),List.getElem?_append_right (by omega)]
        rw [List.getElem?_append_right (by omega)] at hi
        rw [<- hi]; congr 1; omega
theorem Has.repl {j : Nat} {e : Ent} (h : Has N S st (e :: H)) (hj : j < H.length) : Has N S st (H.set j e) :=
  Has.back (h.erase (j + 1)) hj
theorem Has.clear {P : Pv} {j : Nat} {x : D} {s : Nat} {es : List (List D)} {t e : TypeId} {z : List D} (h : Has N S st H) (hj : H[j]? = some (.lst x s es)) (ht : P.und t = some (.slice e)) (hz : zeroC P e = some z) (hzl : z.length = s) (hr : refs z = 0) :
    ∃ st',clearD P [t] x st = some (.tup [],st') /\ Has N S st' (H.set j (.lst x s (List.replicate es.length z))) := by
  have hk0 := (h.ok j _ hj).2
  have hown := h.own hj
  have hjl : j < H.length := by
    rcases Nat.lt_or_ge j H.length with h' | h'
    · exact h'
    · rw [List.getElem?_eq_none h'] at hj; cases hj
  cases hown with
  | nul =>
    refine ⟨st,by simp only [clearD,ht],?_⟩
    have : H.set j (.lst .nul s (List.replicate ([] : List (List D)).length z)) = H := by
      refine List.ext_getElem? fun i => ?_
      by_cases hi : i = j
      · subst hi; rw [List.getElem?_set_self hjl,hj]; rfl
      · rw [List.getElem?_set_ne (fun e => hi e.symm)]
    rw [this]; exact h
  | win k ver off es c hm hle hc he =>
    have hk := hk0 k (by simp only [Ent.lst,D.ref])
    have hrf : ∀ n,refs (Go.V.repl n z) = 0 := by
      intro n
      unfold Go.V.repl
      induction n with
      | zero => rfl
      | succ n ih =>
        rw [List.replicate_succ,List.flatten_cons]
        have happ : ∀ (a b : List D),refs a = 0 -> refs b = 0 -> refs (a ++ b) = 0 := by
          intro a
          induction a with
          | nil => intro b _ hb; exact hb
          | cons d a iha =>
            intro b ha hb
            simp only [refs,List.cons_append] at ha ⊢
            have := iha b (by omega) hb
            omega
        exact happ _ _ hr ih
    have hlr : (Go.V.repl es.length z).length = es.length * s := by
      unfold Go.V.repl
      rw [flat_len (s := s) (fun e he => by rw [(List.mem_replicate.1 he).2]; exact hzl),List.length_replicate]
    have hw : st.wr k ver off (Go.V.repl es.length z) = some ⟨st.bs.set k (.mem ver true (c.take off ++ Go.V.repl es.length z ++ c.drop (off + (Go.V.repl es.length z).length))),st.flr,st.ro⟩ := wr_own hm (by omega) (canW_has h hk.1 (.inr (hrf _)))
    refine ⟨_,by simp only [clearD,ht,hz,Option.bind_some]; rw [if_pos hzl,hw]; rfl,?_⟩
    refine h.upd hj (fun n hn hne => ?_) (by simp) rfl rfl ?_ (fun n hn => .inl hn) fun n hn => ?_
    · simp only; rw [List.getElem?_set_ne (fun e => hne (by simp only [Ent.lst,D.ref]; omega))]
    · have hlen' : ∀ e' ∈ List.replicate es.length z,e'.length = s := fun e' he' => by rw [(List.mem_replicate.1 he').2]; exact hzl
      have := OwnP.win (st := ⟨st.bs.set k (.mem ver true (c.take off ++ Go.V.repl es.length z ++ c.drop (off + (Go.V.repl es.length z).length))),st.flr,st.ro⟩) (s := s) k ver off (List.replicate es.length z) (c.take off ++ Go.V.repl es.length z ++ c.drop (off + (Go.V.repl es.length z).length))
        (by simp only; rw [List.getElem?_set_self hk.2]) (by rw [List.length_replicate]; simp; omega) ?_ hlen'
      · rw [List.length_replicate] at this; exact this
      · rw [List.length_replicate,List.append_assoc,List.drop_append_of_le_length (by simp; omega),List.drop_take,Nat.sub_self,List.take_zero,List.nil_append, <- hlr,List.take_left']
        · rfl
        · rfl
    · simp only [Ent.lst,D.ref] at hn
      have : n = k := by omega
      subst this
      simpa using hk.2
variable {P : Pv} {ops : Array Oper} {rest : List Oper} {fr fr' : Fr} {Q : Fr -> St -> Prop} {ty : TypeId} {pp : String} {a : Array Edge} {g : Option (Nat × Bool)} {dst : Nat}
end Go.V
