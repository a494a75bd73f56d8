/-
 The program's Make: the ranges of runes in a range; all of them, sorted and joined.
-/
import Derived.Test.YtbdilgkfnacahaaJa
namespace Go.Proofs.Ytbdilgkfnacahaa
open Go.V Go
set_option maxRecDepth 100000
set_option maxHeartbeats 4000000
set_option linter.unusedSimpArgs false
set_option linter.unusedVariables false

/-- what a frame holds at a slot -/
def ixF_Jb (fr : Go.V.Fr) (k : Nat) : Go.V.D := Go.V.nth .junk fr.loc k

def partsS : List Rg := [(0, 55295), (57344, 1114111)]
def oneP (lo hi : Int) (p : Rg) : List Rg := if max lo p.1 ≤ min hi p.2 then [(max lo p.1, min hi p.2)] else []
theorem runesS_parts (q : Rg) : runesS q = partsS.flatMap (oneP (max q.1 0) (min q.2 1114111)) := by
 simp [runesS, partsS, oneP]

theorem runes_ev {s0 : St} (q : Rg) : Ev pv 91 [.agg (rangeC q)] s0 (rangesV (runesS q)) s0 := by
 refine Ev.mk1 rfl fi91 rfl rfl rfl ?_
 dsimp only [List.cons_append, List.nil_append, List.length, Nat.reduceSub, Nat.reduceAdd, List.replicate_succ, List.replicate_zero]
 have hSb : (enterSt .ro s0).bs = s0.bs := rfl
 have hF : (enterSt .ro s0).flr ≤ s0.bs.length := Nat.le_refl _
 have hH : Has s0.bs.length (enterSt .ro s0) (enterSt .ro s0) [] := Has.start (Nat.le_refl _) (Nat.le_refl _)
 generalize enterSt .ro s0 = S at *
 try refine qy ?_
 repeat refine qq ?_
 try generalize hK : SeqQ _ _ _ _ = K
 refine EvC.reg ?_
 refine qb hH fun k1 st hk1 hH => ?_
 try dsimp only [u2, u1, u3, u4, setMany, u5, u6, D.cells, Nat.reduceAdd, rangeC] at hH
 refine qm ?_
 refine EvO.nil ?_
 try subst hK
 try refine qy ?_
 repeat refine qq ?_
 try generalize hK : SeqQ _ _ _ _ = K
 refine EvC.reg ?_
 refine qp (o := 0) ?_
 refine ql hH at0 ?_
 refine EvO.maxS (t1 := 0) (t2 := 0) rfl (ev rfl) (ev rfl) (by dsimp only [Fr.put, List.set_cons_succ, List.set_cons_zero] <;> rfl) ?_
 refine qp (o := 1) ?_
 refine ql hH at0 ?_
 refine EvO.minS (t1 := 0) (t2 := 0) rfl (ev rfl) (ev rfl) (by dsimp only [Fr.put, List.set_cons_succ, List.set_cons_zero] <;> rfl) ?_
 refine qp (o := 0) ?_
 refine qT hH at0 fun st hH => ?_
 try dsimp only [u2, u1, u3, u4, setMany, u5, u6, D.cells, Nat.reduceAdd, rangeC] at hH
 refine qp (o := 1) ?_
 refine qT hH at0 fun st hH => ?_
 try dsimp only [u2, u1, u3, u4, setMany, u5, u6, D.cells, Nat.reduceAdd, rangeC] at hH
 refine EvO.nil ?_
 try subst hK
 try refine qy ?_
 generalize hlo : max q.1 0 = lo at *
 generalize hhi : min q.2 1114111 = hi at *
 try refine qy ?_
 repeat refine qq ?_
 try generalize hK : SeqQ _ _ _ _ = K
 refine EvC.reg ?_
 refine qm ?_
 refine EvO.nil ?_
 try subst hK
 try refine qy ?_
 have hH := hH.nulE 2
 try refine qy ?_
 repeat refine qq ?_
 try generalize hK : SeqQ _ _ _ _ = K
 refine EvC.reg ?_
 refine qg ?_
 refine qg ?_
 refine qh (s := 2) (vs := [_, _]) hH fun k17 st hk17 hH => ?_
 try dsimp only [u2, u1, u3, u4, setMany, u5, u6, D.cells, Nat.reduceAdd, rangeC] at hH
 refine qn ?_ (hR := hH.rows at0)
 try simp only [List.length_map, List.length_append, List.length_cons, List.length_nil, List.length_set, List.length_replicate, List.length_reverse]
 refine qm ?_
 refine EvO.nil ?_
 try subst hK
 try refine qy ?_
 repeat refine qq ?_
 refine EvC.block ?_
 refine EvC.loop (fun mm fr st => ∃ (i : Nat) (x : D), fr.clean = ⟨20, [.agg (rangeC q), .ptr k1 0 0, .nul, x, ixF_Jb fr 4, ixF_Jb fr 5, ixF_Jb fr 6, ixF_Jb fr 7, ixF_Jb fr 8, ixF_Jb fr 9, ixF_Jb fr 10, ixF_Jb fr 11, ixF_Jb fr 12, ixF_Jb fr 13, ixF_Jb fr 14, ixF_Jb fr 15, ixF_Jb fr 16, .win k17 0 0 2 2, .int .i64 2, .int .i64 (i : Nat)], []⟩ ∧ Has s0.bs.length S st [.lst (.win k17 0 0 2 2) 2 (partsS.map rangeC), .lst x 2 (((partsS.take i).flatMap (oneP lo hi)).map rangeC), .box k1 (.mem 0 false [.int .i32 lo, .int .i32 hi])] ∧ (i + mm = 2) ∧ (((partsS.take i).flatMap (oneP lo hi)).length ≤ i)) (2) ?_ ?_
 ·exact ⟨0, .nul, rfl, hH, by omega, by simp⟩
 rintro mm fr st ⟨i, x, hfr, hH, hij, hb⟩
 rw [hfr]
 clear hfr
 try generalize ixF_Jb fr = ee
 clear fr
 try refine qy ?_
 repeat refine qq ?_
 try generalize hK : SeqQ _ _ _ _ = K
 refine EvC.reg ?_
 refine qg ?_
 refine EvO.nil ?_
 try subst hK
 try refine qy ?_
 repeat refine qq ?_
 refine qc (fun h1 => ?_) (fun h1 => ?_) <;> try simp only [cs] at h1
 ·refine EvC.skip ?_
  try refine qy ?_
  obtain ⟨p, hp⟩ : ∃ p, partsS[i]? = some p := ⟨partsS[i]'(by simp [partsS]; omega), List.getElem?_eq_getElem _⟩
  have hr := range_get hp
  try refine qy ?_
  repeat refine qq ?_
  refine EvC.block ?_
  try refine qy ?_
  repeat refine qq ?_
  try generalize hK : SeqQ _ _ _ _ = K
  refine EvC.reg ?_
  refine qi hH at0 fun p21 hp21 => ?_
  refine EvO.oloadS hH rfl (ev rfl) (by assumption) (by exact at0) (by assumption) rfl (put_T rfl _) ?_
  refine qa hH fun k5 st hk5 hH => ?_
  try dsimp only [u2, u1, u3, u4, setMany, u5, u6, D.cells, Nat.reduceAdd, rangeC] at hH
  refine qS hH at0 fun st hH => ?_
  try dsimp only [u2, u1, u3, u4, setMany, u5, u6, D.cells, Nat.reduceAdd, rangeC] at hH
  refine EvO.nil ?_
  try subst hK
  try refine qy ?_
  repeat refine qq ?_
  try generalize hK : SeqQ _ _ _ _ = K
  refine EvC.reg ?_
  refine qp (o := 0) ?_
  refine ql hH at3 ?_
  refine qp (o := 0) ?_
  refine ql hH at0 ?_
  refine EvO.maxS (t1 := 0) (t2 := 0) rfl (ev rfl) (ev rfl) (put_T rfl _) ?_
  refine qp (o := 1) ?_
  refine ql hH at3 ?_
  refine qp (o := 1) ?_
  refine ql hH at0 ?_
  refine EvO.minS (t1 := 0) (t2 := 0) rfl (ev rfl) (ev rfl) (put_T rfl _) ?_
  refine qg ?_
  refine qa hH fun k6 st hk6 hH => ?_
  try dsimp only [u2, u1, u3, u4, setMany, u5, u6, D.cells, Nat.reduceAdd, rangeC] at hH
  refine qS hH at0 fun st hH => ?_
  try dsimp only [u2, u1, u3, u4, setMany, u5, u6, D.cells, Nat.reduceAdd, rangeC] at hH
  refine EvO.nil ?_
  try subst hK
  try refine qy ?_
  repeat refine qq ?_
  try generalize hK : SeqQ _ _ _ _ = K
  refine EvC.reg ?_
  refine qp (o := 0) ?_
  refine ql hH at0 ?_
  refine qp (o := 1) ?_
  refine ql hH at0 ?_
  refine qg ?_
  refine EvO.nil ?_
  try subst hK
  try refine qy ?_
  repeat refine qq ?_
  refine qc (fun h2 => ?_) (fun h2 => ?_) <;> try simp only [cs] at h2
  ·try refine qy ?_
   repeat refine qq ?_
   try generalize hK : SeqQ _ _ _ _ = K
   refine EvC.reg ?_
   refine qm ?_
   refine EvO.hloadS (m := 2) hH rfl (ev rfl) (by exact at0) (by dsimp only [List.drop_succ_cons, List.drop_zero, List.take_succ_cons, List.take_zero, rangeC] <;> rfl) rfl rfl (put_T rfl _) ?_
   refine qh (s := 2) (vs := [_]) hH fun k41 st hk41 hH => ?_
   try dsimp only [u2, u1, u3, u4, setMany, u5, u6, D.cells, Nat.reduceAdd, rangeC] at hH
   refine qP hH at4 (hH.rows at0) fun x42 st hH => ?_
   try dsimp only [u2, u1, u3, u4, setMany, u5, u6, D.cells, Nat.reduceAdd, rangeC] at hH
   refine qm ?_
   refine EvO.nil ?_
   try subst hK
   try refine qy ?_
   repeat refine qq ?_
   try generalize hK : SeqQ _ _ _ _ = K
   refine EvC.reg ?_
   refine qA ?_
   refine qm ?_
   refine EvO.nil ?_
   try subst hK
   try refine qy ?_
   have h3 : (partsS.take (i + 1)).flatMap (oneP lo hi) = (partsS.take i).flatMap (oneP lo hi) ++ [(max lo p.1, min hi p.2)] := by
    rw [List.take_add_one, hp, List.flatMap_append]; simp [oneP, h2]
   exact ⟨mm - 1, by omega, ⟨i + 1, x42, rfl, (by rw [h3, List.map_append]; exact hH.drop 3), by omega, by rw [h3]; simp only [List.length_append, List.length_cons, List.length_nil]; omega⟩⟩
  ·refine EvC.skip ?_
   try refine qy ?_
   repeat refine qq ?_
   try generalize hK : SeqQ _ _ _ _ = K
   refine EvC.reg ?_
   refine qA ?_
   refine qm ?_
   refine EvO.nil ?_
   try subst hK
   try refine qy ?_
   have h3 : (partsS.take (i + 1)).flatMap (oneP lo hi) = (partsS.take i).flatMap (oneP lo hi) := by
    rw [List.take_add_one, hp, List.flatMap_append]; simp [oneP, h2]
   exact ⟨mm - 1, by omega, ⟨i + 1, x, rfl, (by rw [h3]; exact hH.drop 2), by omega, by rw [h3]; omega⟩⟩
 ·try refine qy ?_
  refine EvC.exit ?_
  try refine qy ?_
  repeat refine qq ?_
  try generalize hK : SeqQ _ _ _ _ = K
  refine EvC.reg ?_
  refine qm ?_
  refine qm ?_
  refine EvO.nil ?_
  try subst hK
  try refine qy ?_
  rw [← rangesV_el]
  have h3 : partsS.take i = partsS := List.take_of_length_le (by simp [partsS]; omega)
  rw [h3] at hH
  refine EvC.ret ⟨fun i h => (by cases h), _, rfl, leave_ro (by simp) hSb hH ?_⟩
  refine Eq.trans (hH.freeze at1 (range_plain _) (n := 15) (by decide)) ?_
  rw [runesS_parts, hlo, hhi]

/-- the ranges of runes have begins that are runes' numbers -/
theorem runesS_lo (q x : Rg) (h : x ∈ runesS q) : 0 ≤ x.1 ∧ x.1 ≤ 1114111 := by
 obtain ⟨h1, h2, h3⟩ := runesS_le q x h
 omega
theorem runesS_len (q : Rg) : (runesS q).length ≤ 2 := by
 unfold runesS; split <;> split <;> simp

theorem flatMap_len (l : List Rg) : (l.flatMap runesS).length ≤ 2 * l.length := by
 induction l with
 | nil => simp
 | cons x l ih => simp only [List.flatMap_cons, List.length_append, List.length_cons]; have := runesS_len x; omega

def toRs (l : List Rg) : Option (List Rs) := rgD (l.map rangeC).flatten

theorem toRs_some : ∀ {l : List Rg}, (∀ x ∈ l, 0 ≤ x.1 ∧ x.1 ≤ 1114111) → ∃ m : List Rs, encD m = (l.map rangeC).flatten ∧ m.map (fun x => (x.lo, x.hi)) = l
 | [], _ => ⟨[], rfl, rfl⟩
 | x :: l, h => by
  obtain ⟨m, h1, h2⟩ := toRs_some (l := l) fun y hy => h y (List.mem_cons_of_mem _ hy)
  obtain ⟨h3, h4⟩ := h x (List.mem_cons_self ..)
  exact ⟨⟨x.1, x.2, h3, h4⟩ :: m, by simp only [encD, h1, List.map_cons, List.flatten_cons, rangeC, List.cons_append, List.nil_append], by simp [h2]⟩

theorem encD_range (m : List Rs) : encD m = ((m.map fun x => ((x.lo, x.hi) : Rg)).map rangeC).flatten := by
 induction m with
 | nil => rfl
 | cons x m ih => simp only [encD, ih, List.map_cons, List.flatten_cons, rangeC, List.cons_append, List.nil_append]

/-- an own list is sorted -/
theorem has_sort {N : Nat} {S st : St} {H : List Ent} {j : Nat} {x : D} {l : List Rg} (hH : Has N S st H) (hj : H[j]? = some (.lst x 2 (l.map rangeC))) (h0 : l = [] → x = .nul) (hl : l.length ≤ 1073741824) (hr : ∀ y ∈ l, 0 ≤ y.1 ∧ y.1 ≤ 1114111) :
  ∃ (st' : St) (l' : List Rg), Ev pv 92 [x, .fn 93 []] st (.tup []) st' ∧ Has N S st' (H.set j (.lst x 2 (l'.map rangeC))) ∧ l'.Perm l ∧ l'.Pairwise fun a b => a.1 ≤ b.1 := by
 obtain ⟨m, h1, h2⟩ := toRs_some hr
 obtain ⟨h3, h4⟩ := srt_facts m
 have hml : m.length = l.length := by rw [← h2]; simp
 have hperm : ((srt m).map fun x => ((x.lo, x.hi) : Rg)).Perm l := by rw [← h2]; exact h3.map _
 have hpair : ((srt m).map fun x => ((x.lo, x.hi) : Rg)).Pairwise fun a b => a.1 ≤ b.1 := by rw [List.pairwise_map]; exact h4
 have hlen : (srt m).length = l.length := h3.length_eq.trans hml
 have hown := hH.own hj
 generalize hes : l.map rangeC = es at *
 have hel : es.length = l.length := by rw [← hes]; simp
 cases hown with
 | nul =>
  have hl0 : l = [] := by cases l with | nil => rfl | cons _ _ => simp at hel
  refine ⟨st, (srt m).map fun x => (x.lo, x.hi), Ev.prim rfl rfl, ?_, hperm, hpair⟩
  have : (srt m).map (fun x => ((x.lo, x.hi) : Rg)) = [] := by
   cases hs : srt m with
   | nil => rfl
   | cons a b => rw [hs, hl0] at hlen; simp at hlen
  rw [this]
  exact hH.upd hj (fun _ _ _ => rfl) (Nat.le_refl _) rfl rfl .nul (fun k hk => .inl hk) fun k hk => by simp only [Ent.lst, D.ref] at hk; omega
 | win k ver off es c hm hle hc he =>
  have hne : l ≠ [] := fun e => by have := h0 e; cases this
  have hl1 : 1 ≤ l.length := by cases l with | nil => exact absurd rfl hne | cons _ _ => simp
  have hk := (hH.ok j _ hj).2 k (by simp only [Ent.lst, D.ref])
  have hel2 : (encD (srt m)).length = es.length * 2 := by rw [encD_len, hlen, hel]; omega
  have hwr : st.wr k ver off (encD (srt m)) = some ⟨st.bs.set k (.mem ver true (c.take off ++ encD (srt m) ++ c.drop (off + (encD (srt m)).length))), st.flr, st.ro⟩ :=
   wr_own hm (by omega) (canW_has hH hk.1 (.inr (encD_refs _)))
  refine ⟨⟨st.bs.set k (.mem ver true (c.take off ++ encD (srt m) ++ c.drop (off + (encD (srt m)).length))), st.flr, st.ro⟩, (srt m).map fun x => (x.lo, x.hi), Ev.prim rfl ?_, ?_, hperm, hpair⟩
  ·show srtP [.win k ver off es.length 2, .fn 93 []] st = _
   have hcc : (c.drop off).take (2 * es.length) = encD m := by rw [Nat.mul_comm, hc, h1]
   simp only [srtP, St.mem_of hm, hcc, rgD_enc, srtQ]
   rw [decide_eq_true (⟨by rw [hml, hel], by omega, by omega⟩ : m.length = es.length ∧ 1 ≤ es.length ∧ es.length < 1099511627776)]
   simp only [hwr]
  ·refine hH.upd hj (fun n hn hne => ?_) (by simp) rfl rfl ?_ (fun n hn => .inl hn) fun n hn => ?_
   ·simp only; rw [List.getElem?_set_ne (fun e => hne (by simp only [Ent.lst, D.ref]; omega))]
   ·have h9 := OwnP.win (st := ⟨st.bs.set k (.mem ver true (c.take off ++ encD (srt m) ++ c.drop (off + (encD (srt m)).length))), st.flr, st.ro⟩) (s := 2) k ver off (((srt m).map fun x => ((x.lo, x.hi) : Rg)).map rangeC) (c.take off ++ encD (srt m) ++ c.drop (off + (encD (srt m)).length))
     (by simp only; rw [List.getElem?_set_self hk.2]) (by simp only [List.length_append, List.length_take, List.length_map, List.length_drop, hel2]; omega) ?_ (range_len _)
    ·simp only [List.length_map, hlen] at h9
     rw [hel]; exact h9
    ·have hoff : (c.take off).length = off := by simp; omega
     rw [List.append_assoc, List.drop_left' hoff, ← encD_range, List.take_left' (by simp only [List.length_map, hlen]; omega)]
   ·simp only [Ent.lst, D.ref] at hn; simp only [List.length_set]; omega

theorem join_pos (l : List Rg) : (l.foldl joinR []).length ≤ l.length := by
 have key : ∀ (l acc : List Rg), (l.foldl joinR acc).length ≤ acc.length + l.length := by
  intro l
  induction l with
  | nil => intro acc; simp
  | cons x l ih =>
   intro acc
   simp only [List.foldl_cons, List.length_cons]
   have := ih (joinR acc x)
   have h2 : (joinR acc x).length ≤ acc.length + 1 := by
    unfold joinR; split
    ·simp
    ·split <;> simp
   omega
 have := key l []
 simpa using this

theorem join_hi {l : List Rg} (h : ∀ x ∈ l, 0 ≤ x.2 ∧ x.2 ≤ 1114111) : ∀ x ∈ l.foldl joinR [], 0 ≤ x.2 ∧ x.2 ≤ 1114111 := by
 have key : ∀ (l acc : List Rg), (∀ x ∈ l, 0 ≤ x.2 ∧ x.2 ≤ 1114111) → (∀ x ∈ acc, 0 ≤ x.2 ∧ x.2 ≤ 1114111) → ∀ x ∈ l.foldl joinR acc, 0 ≤ x.2 ∧ x.2 ≤ 1114111 := by
  intro l
  induction l with
  | nil => intro acc _ h x hx; exact h x hx
  | cons y l ih =>
   intro acc h1 h2
   refine ih _ (fun x hx => h1 x (List.mem_cons_of_mem _ hx)) fun x hx => ?_
   have hy := h1 y (List.mem_cons_self ..)
   unfold joinR at hx
   split at hx
   ·simp only [List.mem_cons, List.not_mem_nil, or_false] at hx; rw [hx]; exact hy
   ·rename_i k rest
    have hk := h2 k (List.mem_cons_self ..)
    split at hx
    ·rcases List.mem_cons.1 hx with rfl | hx
     ·simp only; omega
     ·exact h2 x (List.mem_cons_of_mem _ hx)
    ·rcases List.mem_cons.1 hx with rfl | hx
     ·exact hy
     ·exact h2 x hx
 exact key l [] h (fun x hx => by cases hx)

theorem last_get (h : Rg) (t : List Rg) : ((h :: t).reverse.map rangeC)[t.length]? = some (rangeC h) := by
 rw [List.getElem?_map, List.reverse_cons, List.getElem?_append_right (by simp)]; simp
theorem last_set (h h' : Rg) (t : List Rg) : ((h :: t).reverse.map rangeC).set t.length (rangeC h') = (h' :: t).reverse.map rangeC := by
 rw [List.reverse_cons, List.map_append, List.set_append_right _ _ (by simp)]; simp

theorem make_ev {s0 : St} {x : D} {l : List Rg} (hx : V.Rows s0 2 x (l.map rangeC)) (hl : l.length ≤ 268435456) : ∃ d, Ev pv 83 [x] s0 d s0 ∧ ∃ all : List Rg, d = rangesV (all.foldl joinR []).reverse ∧ all.Perm (l.flatMap runesS) ∧ all.Pairwise fun a b => a.1 ≤ b.1 := by
 refine Ev.mkR rfl fi83 rfl rfl rfl ?_
 dsimp only [List.cons_append, List.nil_append, List.length, Nat.reduceSub, Nat.reduceAdd, List.replicate_succ, List.replicate_zero]
 have hSb : (enterSt .ro s0).bs = s0.bs := rfl
 have hF : (enterSt .ro s0).flr ≤ s0.bs.length := Nat.le_refl _
 have hH : Has s0.bs.length (enterSt .ro s0) (enterSt .ro s0) [] := Has.start (Nat.le_refl _) (Nat.le_refl _)
 generalize enterSt .ro s0 = S at *
 have hx := Arg.of hx hSb
 have hfl := flatMap_len l
 have hfi : ∀ i, ((l.take i).flatMap runesS).length ≤ 2 * l.length := fun i => by
  have := flatMap_len (l.take i)
  simp only [List.length_take] at this
  omega
 try refine qy ?_
 repeat refine qq ?_
 try generalize hK : SeqQ _ _ _ _ = K
 refine EvC.reg ?_
 refine qm ?_
 refine EvO.nil ?_
 try subst hK
 try refine qy ?_
 repeat refine qq ?_
 try generalize hK : SeqQ _ _ _ _ = K
 refine EvC.reg ?_
 refine qm ?_
 refine qm ?_
 refine EvO.nil ?_
 try subst hK
 try refine qy ?_
 repeat refine qq ?_
 try generalize hK : SeqQ _ _ _ _ = K
 refine EvC.reg ?_
 refine qm ?_
 refine qn ?_
 try simp only [List.length_map, List.length_append, List.length_cons, List.length_nil, List.length_set, List.length_replicate, List.length_reverse]
 refine qm ?_
 refine EvO.nil ?_
 try subst hK
 try refine qy ?_
 have hH := hH.nulE 2
 try refine qy ?_
 repeat refine qq ?_
 refine EvC.block ?_
 refine EvC.loop (fun mm fr st => ∃ (i : Nat) (y : D), fr.clean = ⟨26, [x, ixF_Jb fr 1, ixF_Jb fr 2, y, .nul, ixF_Jb fr 5, ixF_Jb fr 6, ixF_Jb fr 7, ixF_Jb fr 8, ixF_Jb fr 9, x, .int .i64 (l.length : Nat), .int .i64 (i : Nat), ixF_Jb fr 13, ixF_Jb fr 14, ixF_Jb fr 15, ixF_Jb fr 16, ixF_Jb fr 17, ixF_Jb fr 18, ixF_Jb fr 19, ixF_Jb fr 20, ixF_Jb fr 21, ixF_Jb fr 22, ixF_Jb fr 23, ixF_Jb fr 24, ixF_Jb fr 25], []⟩ ∧ Has s0.bs.length S st [.lst y 2 (((l.take i).flatMap runesS).map rangeC)] ∧ (i + mm = l.length) ∧ ((l.take i).flatMap runesS = [] → y = .nul)) (l.length) ?_ ?_
 ·exact ⟨0, .nul, rfl, hH, by omega, fun _ => rfl⟩
 rintro mm fr st ⟨i, y, hfr, hH, hi, hnul⟩
 rw [hfr]
 clear hfr
 try generalize ixF_Jb fr = ee
 clear fr
 try refine qy ?_
 repeat refine qq ?_
 try generalize hK : SeqQ _ _ _ _ = K
 refine EvC.reg ?_
 refine qg ?_
 refine EvO.nil ?_
 try subst hK
 try refine qy ?_
 have hm := hfi i
 try refine qy ?_
 repeat refine qq ?_
 refine qc (fun h1 => ?_) (fun h1 => ?_) <;> try simp only [cs] at h1
 ·refine EvC.skip ?_
  try refine qy ?_
  obtain ⟨q, hq⟩ : ∃ q, l[i]? = some q := ⟨l[i]'(by omega), List.getElem?_eq_getElem _⟩
  have hr := range_get hq
  have hm1 : (l.take (i + 1)).flatMap runesS = (l.take i).flatMap runesS ++ runesS q := by
   rw [List.take_add_one, hq]; simp
  have hrq := runesS_len q
  try refine qy ?_
  repeat refine qq ?_
  refine EvC.block ?_
  try refine qy ?_
  repeat refine qq ?_
  try generalize hK : SeqQ _ _ _ _ = K
  refine EvC.reg ?_
  refine qr fun p14 hp14 => ?_
  refine EvO.rloadS rfl (ev rfl) (by assumption) rfl (by dsimp only [Fr.put, List.set_cons_succ, List.set_cons_zero] <;> rfl) ?_
  refine qa hH fun k6 st hk6 hH => ?_
  try dsimp only [u2, u1, u3, u4, setMany, u5, u6, D.cells, Nat.reduceAdd, rangeC] at hH
  refine qS hH at0 fun st hH => ?_
  try dsimp only [u2, u1, u3, u4, setMany, u5, u6, D.cells, Nat.reduceAdd, rangeC] at hH
  refine EvO.nil ?_
  try subst hK
  try refine qy ?_
  repeat refine qq ?_
  try generalize hK : SeqQ _ _ _ _ = K
  refine EvC.reg ?_
  refine qm ?_
  refine EvO.hloadS (m := 2) hH rfl (ev rfl) (by exact at0) (by dsimp only [List.drop_succ_cons, List.drop_zero, List.take_succ_cons, List.take_zero, rangeC] <;> rfl) rfl rfl (by dsimp only [Fr.put, List.set_cons_succ, List.set_cons_zero] <;> rfl) ?_
  refine EvO.hcall rfl rfl (runes_ev q) (by dsimp only [Fr.put, List.set_cons_succ, List.set_cons_zero] <;> rfl) ?_
  refine EvO.happend0 hH rfl rfl rfl (by exact at1) (rangesV_rows _ _) rfl rfl rfl rfl rfl rfl rfl ⟨(Nat.le_of_ble_eq_true rfl), (Nat.le_of_ble_eq_true rfl)⟩ (fun _ => by dsimp only [Fr.put, List.set_cons_succ, List.set_cons_zero] <;> rfl) (by simp only [List.length_map]; omega) (.inl hF) (fun x19 st hnul2 hH => ?_)
  try dsimp only [List.set_cons_zero, List.set_cons_succ] at hH
  refine qm ?_
  refine EvO.nil ?_
  try subst hK
  try refine qy ?_
  repeat refine qq ?_
  try generalize hK : SeqQ _ _ _ _ = K
  refine EvC.reg ?_
  refine qA ?_
  refine qm ?_
  refine EvO.nil ?_
  try subst hK
  try refine qy ?_
  exact ⟨mm - 1, by omega, ⟨i + 1, x19, rfl, (by rw [hm1, List.map_append]; exact hH.drop 1), by omega, by rw [hm1]; intro h; obtain ⟨h3, h4⟩ := List.append_eq_nil_iff.1 h; rw [hnul2 (by rw [h4]; rfl)]; exact hnul h3⟩⟩
 ·try refine qy ?_
  refine EvC.exit ?_
  try refine qy ?_
  have hT : l.take i = l := List.take_of_length_le (by omega)
  rw [hT] at hH hnul hm
  obtain ⟨st2, all, hev, hH2, hperm, hpair⟩ := has_sort hH at0 hnul (by omega) (fun z hz => by
   obtain ⟨w, _, hw⟩ := List.mem_flatMap.1 hz
   exact runesS_lo w z hw)
  have hlen := hperm.length_eq
  have hbd : ∀ z ∈ all, 0 ≤ z.2 ∧ z.2 ≤ 1114111 := fun z hz => by
   obtain ⟨w, _, hw⟩ := List.mem_flatMap.1 (hperm.mem_iff.1 hz)
   have := runesS_le w z hw
   omega
  try refine qy ?_
  repeat refine qq ?_
  try generalize hK : SeqQ _ _ _ _ = K
  refine EvC.reg ?_
  refine qm ?_
  refine EvO.hcall rfl rfl (hev) (by dsimp only [Fr.put, List.set_cons_succ, List.set_cons_zero] <;> rfl) ?_
  refine EvO.nil ?_
  try subst hK
  try refine qy ?_
  have hH := hH2
  dsimp only [List.set_cons_zero] at hH
  clear hH2 hev
  have hR := hH.rows at0
  have hH := hH.nulE 2
  try refine qy ?_
  repeat refine qq ?_
  try generalize hK : SeqQ _ _ _ _ = K
  refine EvC.reg ?_
  refine qm ?_
  refine qn ?_ (hR := hH.rows at1)
  try simp only [List.length_map, List.length_append, List.length_cons, List.length_nil, List.length_set, List.length_replicate, List.length_reverse]
  refine qm ?_
  refine EvO.nil ?_
  try subst hK
  try refine qy ?_
  repeat refine qq ?_
  refine EvC.block ?_
  refine EvC.loop (fun mm fr st => ∃ (i : Nat) (z : D), fr.clean = ⟨26, [x, ixF_Jb fr 1, ixF_Jb fr 2, y, z, ixF_Jb fr 5, ixF_Jb fr 6, ixF_Jb fr 7, ixF_Jb fr 8, ixF_Jb fr 9, ixF_Jb fr 10, ixF_Jb fr 11, ixF_Jb fr 12, ixF_Jb fr 13, ixF_Jb fr 14, ixF_Jb fr 15, ixF_Jb fr 16, ixF_Jb fr 17, ixF_Jb fr 18, ixF_Jb fr 19, ixF_Jb fr 20, ixF_Jb fr 21, ixF_Jb fr 22, y, .int .i64 (all.length : Nat), .int .i64 (i : Nat)], []⟩ ∧ Has s0.bs.length S st [.lst z 2 (((all.take i).foldl joinR []).reverse.map rangeC), .lst y 2 (all.map rangeC)] ∧ (i + mm = all.length)) (all.length) ?_ ?_
  ·exact ⟨0, .nul, rfl, hH, by omega⟩
  rintro mm fr st ⟨i, z, hfr, hH, hi⟩
  rw [hfr]
  clear hfr
  try generalize ixF_Jb fr = ee
  clear fr
  try refine qy ?_
  repeat refine qq ?_
  try generalize hK : SeqQ _ _ _ _ = K
  refine EvC.reg ?_
  refine qg ?_
  refine EvO.nil ?_
  try subst hK
  try refine qy ?_
  have hjl : ((all.take i).foldl joinR []).length ≤ all.length := by
   have := join_pos (all.take i)
   simp only [List.length_take] at this; omega
  try refine qy ?_
  repeat refine qq ?_
  refine qc (fun h1 => ?_) (fun h1 => ?_) <;> try simp only [cs] at h1
  ·refine EvC.skip ?_
   try refine qy ?_
   obtain ⟨q, hq⟩ : ∃ q, all[i]? = some q := ⟨all[i]'(by omega), List.getElem?_eq_getElem _⟩
   have hr := range_get hq
   have hj1 : (all.take (i + 1)).foldl joinR [] = joinR ((all.take i).foldl joinR []) q := by
    rw [List.take_add_one, hq, List.foldl_append]; rfl
   generalize hacc : (all.take i).foldl joinR [] = acc at *
   try refine qy ?_
   repeat refine qq ?_
   refine EvC.block ?_
   try refine qy ?_
   repeat refine qq ?_
   try generalize hK : SeqQ _ _ _ _ = K
   refine EvC.reg ?_
   refine qi hH at1 fun p27 hp27 => ?_
   refine EvO.oloadS hH rfl (ev rfl) (by assumption) (by exact at1) (by assumption) rfl (put_T rfl _) ?_
   refine qa hH fun k8 st hk8 hH => ?_
   try dsimp only [u2, u1, u3, u4, setMany, u5, u6, D.cells, Nat.reduceAdd, rangeC] at hH
   refine qS hH at0 fun st hH => ?_
   try dsimp only [u2, u1, u3, u4, setMany, u5, u6, D.cells, Nat.reduceAdd, rangeC] at hH
   refine EvO.nil ?_
   try subst hK
   try refine qy ?_
   rcases acc with _ | ⟨h, t⟩
   ·try refine qy ?_
    repeat refine qq ?_
    try generalize hK : SeqQ _ _ _ _ = K
    refine EvC.reg ?_
    refine qm ?_
    refine qn ?_ (hR := hH.rows at1)
    try simp only [List.length_map, List.length_append, List.length_cons, List.length_nil, List.length_set, List.length_replicate, List.length_reverse]
    refine EvO.subZ (z := (-1)) rfl (ev rfl) (ev rfl) (by (try simp only [List.length_reverse, List.length_cons, List.length_nil, List.length_append, List.length_map, List.length_set]); rw [wrap_i64 (by omega) (by omega)] <;> omega) (put_T rfl _) ?_
    refine qm ?_
    refine EvO.nil ?_
    try subst hK
    try refine qy ?_
    have hg2 : decide ((-1 : Int) ≥ 0) = false := by decide
    try refine qy ?_
    repeat refine qq ?_
    refine EvC.cutT 44 (.bool false) [] ?_ (fun ff tmp htmp => ?_)
    ·refine qm ?_
     refine qg ?_
     refine qm ?_
     refine qs ?_ (hg := wn hg2)
     refine qs ?_ (hg := wn hg2)
     refine qs ?_ (hg := wn hg2)
     refine qs ?_ (hg := wn hg2)
     refine qs ?_ (hg := wn hg2)
     refine qs ?_ (hg := wn hg2)
     refine qs ?_ (hg := wn hg2)
     refine qs ?_ (hg := wn hg2)
     refine qs ?_ (hg := wn hg2)
     refine qu hg2 ?_
     refine EvO.nil (leafT ?_ ?_)
     ·try dsimp only [setW, List.foldl, nth, u2, u1]
      all_goals (first | rfl | simp)
     ·try dsimp only [Fr.putO, Fr.put, Fr.clean, Fr.ev, Fr.get, nth, Go.V.look, u1, u2, v1, v2, v3, v4, v5, v6, v7, List.length, u3, u4, Nat.reduceSub, Nat.reduceAdd, List.map]
      all_goals (first | rfl | (simp [hg2]; done) | (simp_all; done) | (simp [hg2]; omega) | (simp_all; omega))
    try dsimp only [setW, List.foldl, nth, u2, u1]
    try dsimp only [Fr.putO, Fr.put, Fr.clean, Fr.ev, Fr.get, nth, Go.V.look, u1, u2, v1, v2, v3, v4, v5, v6, v7, List.length, u3, u4, Nat.reduceSub, Nat.reduceAdd, List.map]
    try refine qy ?_
    repeat refine qq ?_
    refine EvC.cond (v := false) (by assumption) (fun h => by cases h) (fun _ => ?_)
    try refine qy ?_
    repeat refine qq ?_
    try generalize hK : SeqQ _ _ _ _ = K
    refine EvC.reg ?_
    refine qm ?_
    refine EvO.hloadS (m := 2) hH rfl (ev rfl) (by exact at0) (by dsimp only [List.drop_succ_cons, List.drop_zero, List.take_succ_cons, List.take_zero, rangeC] <;> rfl) rfl rfl (put_T rfl _) ?_
    refine qh (s := 2) (vs := [_]) hH fun k59 st hk59 hH => ?_
    try dsimp only [u2, u1, u3, u4, setMany, u5, u6, D.cells, Nat.reduceAdd, rangeC] at hH
    refine qP hH at2 (hH.rows at0) fun x60 st hH => ?_
    try dsimp only [u2, u1, u3, u4, setMany, u5, u6, D.cells, Nat.reduceAdd, rangeC] at hH
    refine qm ?_
    refine EvO.nil ?_
    try subst hK
    try refine qy ?_
    repeat refine qq ?_
    try generalize hK : SeqQ _ _ _ _ = K
    refine EvC.reg ?_
    refine qA ?_
    refine qm ?_
    refine EvO.nil ?_
    try subst hK
    try refine qy ?_
    exact ⟨mm - 1, by omega, ⟨i + 1, x60, rfl, (by rw [hj1]; exact hH.drop 2), by omega⟩⟩
   ·simp only [List.length_cons] at hjl
    try refine qy ?_
    repeat refine qq ?_
    try generalize hK : SeqQ _ _ _ _ = K
    refine EvC.reg ?_
    refine qm ?_
    refine qn ?_ (hR := hH.rows at1)
    try simp only [List.length_map, List.length_append, List.length_cons, List.length_nil, List.length_set, List.length_replicate, List.length_reverse]
    refine EvO.subZ (z := ((t.length : Nat) : Int)) rfl (ev rfl) (ev rfl) (by (try simp only [List.length_reverse, List.length_cons, List.length_nil, List.length_append, List.length_map, List.length_set]); rw [wrap_i64 (by omega) (by omega)] <;> omega) (put_T rfl _) ?_
    refine qm ?_
    refine EvO.nil ?_
    try subst hK
    try refine qy ?_
    have hlast := last_get h t
    have hset := last_set h (h.1, max h.2 q.2) t
    have hhi := join_hi (l := all.take i) (fun x hx => hbd x (List.mem_of_mem_take hx)) h (by rw [hacc]; exact List.mem_cons_self ..)
    have hg2 : decide (((t.length : Nat) : Int) ≥ 0) = true := by rw [decide_eq_true]; omega
    try refine qy ?_
    repeat refine qq ?_
    refine EvC.cutT 44 (.bool (decide (q.1 ≤ h.2 + 1))) [] ?_ (fun ff tmp htmp => ?_)
    ·refine qm ?_
     refine qg ?_
     refine qm ?_
     refine qp (o := 0) ?_ (hg := wi hg2)
     refine ql hH at0 ?_ (hg := wi hg2)
     refine qm ?_ (hg := wi hg2)
     refine qm ?_ (hg := wi hg2)
     refine qi hH at1 (fun p39 hp39 => ?_) (hg := wi hg2)
     refine EvO.ofieldN (fo := 1) (m := 0) (o2 := 1) (wantD_is rfl rfl rfl hg2) (ev rfl) (by assumption) rfl rfl rfl (fun _ => (put_T rfl _)) (fun p40 hp40 => ?_)
     refine qo hH at1 ?_ (hg := wi hg2)
     refine EvO.addS32 (wantD_is rfl rfl rfl hg2) (ev rfl) (ev rfl) (by omega) (by omega) (put_T rfl _) ?_
     refine qg ?_ (hg := wi hg2)
     refine qt hg2 ?_
     refine EvO.nil (leafT ?_ ?_)
     ·try dsimp only [setW, List.foldl, nth, u2, u1]
      all_goals (first | rfl | simp)
     ·try dsimp only [Fr.putO, Fr.put, Fr.clean, Fr.ev, Fr.get, nth, Go.V.look, u1, u2, v1, v2, v3, v4, v5, v6, v7, List.length, u3, u4, Nat.reduceSub, Nat.reduceAdd, List.map]
      all_goals (first | rfl | (simp [hg2]; done) | (simp_all; done) | (simp [hg2]; omega) | (simp_all; omega))
    try dsimp only [setW, List.foldl, nth, u2, u1]
    try dsimp only [Fr.putO, Fr.put, Fr.clean, Fr.ev, Fr.get, nth, Go.V.look, u1, u2, v1, v2, v3, v4, v5, v6, v7, List.length, u3, u4, Nat.reduceSub, Nat.reduceAdd, List.map]
    try refine qy ?_
    repeat refine qq ?_
    refine qc (fun h2 => ?_) (fun h2 => ?_) <;> try simp only [cs] at h2
    ·try refine qy ?_
     repeat refine qq ?_
     try generalize hK : SeqQ _ _ _ _ = K
     refine EvC.reg ?_
     refine qm ?_
     refine qm ?_
     refine qm ?_
     refine qm ?_
     refine qi hH at1 fun p49 hp49 => ?_
     refine EvO.ofieldN (fo := 1) (m := 0) (o2 := 1) rfl (ev rfl) (by assumption) rfl rfl rfl (fun _ => (put_T rfl _)) (fun p50 hp50 => ?_)
     refine qo hH at1 ?_
     refine qp (o := 1) ?_
     refine ql hH at0 ?_
     refine EvO.maxS (t1 := 0) (t2 := 0) rfl (ev rfl) (ev rfl) (put_T rfl _) ?_
     refine qi hH at1 fun p55 hp55 => ?_
     refine EvO.ofieldN (fo := 1) (m := 0) (o2 := 1) rfl (ev rfl) (by assumption) rfl rfl rfl (fun _ => (put_T rfl _)) (fun p56 hp56 => ?_)
     refine EvO.ostore hH rfl (ev rfl) (ev rfl) (by assumption) rfl rfl (by exact at1) (by assumption) (Nat.le_of_ble_eq_true rfl) (by exact .inl hF) (fun st hH => ?_)
     try dsimp only [u2, u1, u3, u4, setMany, u5, u6, D.cells, Nat.reduceAdd, rangeC] at hH
     refine EvO.nil ?_
     try subst hK
     try refine qy ?_
     repeat refine qq ?_
     try generalize hK : SeqQ _ _ _ _ = K
     refine EvC.reg ?_
     refine qA ?_
     refine qm ?_
     refine EvO.nil ?_
     try subst hK
     try refine qy ?_
     exact ⟨mm - 1, by omega, ⟨i + 1, z, rfl, (by rw [hj1]; simp only [joinR, if_pos h2]; rw [← hset]; exact hH.drop 1), by omega⟩⟩
    ·try refine qy ?_
     repeat refine qq ?_
     try generalize hK : SeqQ _ _ _ _ = K
     refine EvC.reg ?_
     refine qm ?_
     refine EvO.hloadS (m := 2) hH rfl (ev rfl) (by exact at0) (by dsimp only [List.drop_succ_cons, List.drop_zero, List.take_succ_cons, List.take_zero, rangeC] <;> rfl) rfl rfl (put_T rfl _) ?_
     refine qh (s := 2) (vs := [_]) hH fun k59 st hk59 hH => ?_
     try dsimp only [u2, u1, u3, u4, setMany, u5, u6, D.cells, Nat.reduceAdd, rangeC] at hH
     refine qP hH at2 (hH.rows at0) fun x60 st hH => ?_
     try dsimp only [u2, u1, u3, u4, setMany, u5, u6, D.cells, Nat.reduceAdd, rangeC] at hH
     refine qm ?_
     refine EvO.nil ?_
     try subst hK
     try refine qy ?_
     repeat refine qq ?_
     try generalize hK : SeqQ _ _ _ _ = K
     refine EvC.reg ?_
     refine qA ?_
     refine qm ?_
     refine EvO.nil ?_
     try subst hK
     try refine qy ?_
     exact ⟨mm - 1, by omega, ⟨i + 1, x60, rfl, (by rw [hj1]; simp only [joinR, if_neg h2]; rw [List.reverse_cons (a := q), List.map_append]; exact hH.drop 2), by omega⟩⟩
  ·try refine qy ?_
   refine EvC.exit ?_
   try refine qy ?_
   repeat refine qq ?_
   try generalize hK : SeqQ _ _ _ _ = K
   refine EvC.reg ?_
   refine qm ?_
   refine qm ?_
   refine EvO.nil ?_
   try subst hK
   try refine qy ?_
   rw [List.take_of_length_le (by omega)] at hH
   refine EvC.ret ⟨fun i h => (by cases h), _, _, rfl, leave_ro (by simp) hSb hH ((hH.freeze at0 (range_plain _) (n := 15) (by decide))), ?_⟩
   exact ⟨all, by rw [rangesV_el], hperm, hpair⟩
end Go.Proofs.Ytbdilgkfnacahaa
