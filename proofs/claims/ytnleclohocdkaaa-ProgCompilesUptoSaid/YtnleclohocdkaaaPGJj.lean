/- own -/
import Derived.Test.YtnleclohocdkaaaPGCa
import Derived.Test.YtnleclohocdkaaaPM2
set_option maxRecDepth 100000
set_option maxHeartbeats 4000000
set_option linter.unusedSimpArgs false
set_option linter.unusedVariables false
set_option linter.unusedSectionVars false
namespace Go.Proofs.Ytnleclohocdkaaa
open Go.V Go
def ownMatch (p : Pg) (r : Nat) (s : Int) (n : Nat) : Prop := ∀ pc i,pc < n -> (reachS p.code s)[pc]? = some true -> p.code[pc]? = some i -> i.op = 7 -> i.x = (r : Int)
structure RightQ (p : Pg) : Prop where
 cl : p.code.length <= 400
 sl : p.starts.length <= 8
 sh : ∀ pc i,p.code[pc]? = some i -> shapedS p.code.length p.starts.length pc i = true
 st : ∀ v ∈ p.starts,0 <= v /\ v < (p.code.length : Int)
 fo : ∀ r s,p.starts[r]? = some s -> ownMatch p r s p.code.length
theorem closed_of {p : Pg} (h : ∀ pc i,p.code[pc]? = some i -> shapedS p.code.length p.starts.length pc i = true) : closedS p.code :=
 fun pc i hi => shaped_next (h pc i hi)
theorem RightQ.closed {p : Pg} (h : RightQ p) : closedS p.code := closed_of h.sh
theorem inS_iff {a b : Int} : inS a b = true ↔ 0 <= a /\ a < b := by
 unfold inS; simp only [Bool.and_eq_true,decide_eq_true_eq,ge_iff_le]
def ixF_Jl (fr : Go.V.Fr) (k : Nat) : Go.V.D := Go.V.nth .junk fr.loc k
theorem sameInt_ev {s0 : St} {x y : D} {l m : List Int} (hx : V.Rows s0 1 x (l.map intC)) (hy : V.Rows s0 1 y (m.map intC)) (hl : l.length <= 1073741824) (hm : m.length <= 1073741824) : Ev pv 46 [x,y] s0 (.bool (decide (l = m))) s0 := by
 refine Ev.mk1 rfl fi46 rfl rfl rfl ?_;dsimp only [u3,u4,List.length,Nat.reduceSub,Nat.reduceAdd,w1,w2];obtain ⟨hSb,hF,hH⟩ := ri s0;generalize enterSt .ro s0 = S at *;have hx := Arg.of hx hSb;have hy := Arg.of hy hSb;refine qq ?_;refine qj fun K hK => ?_;refine qm ?_;refine qe hK ?_;refine qq ?_;refine qq ?_;refine qj fun K hK => ?_;refine qm ?_;refine qn ?_;simp only [List.length_map];refine qm ?_;refine qn ?_;simp only [List.length_map];refine qg ?_;refine qe hK ?_
 by_cases hlen : l.length = m.length
 ·refine qE rfl (by rw [hlen]; simp) ?_;refine EvC.skip ?_;refine qq ?_;refine qq ?_;refine qj fun K hK => ?_;refine qm ?_;refine qe hK ?_;refine EvC.block ?_;refine EvC.loop (fun mm fr st => ∃ (i : Nat),fr.clean = ⟨6, [x,y,ixF_Jl fr 2,ixF_Jl fr 3, .bool false, .int .i64 (i : Nat)], []⟩ /\ Has s0.bs.length S st [] /\ (i + mm = l.length) /\ (l.take i = m.take i)) (l.length) ?_ ?_
  ·exact ⟨0,rfl,hH,by omega,rfl⟩
  rintro mm fr st ⟨i,hfr,hH,hi,ht⟩;rw [hfr];clear hfr;generalize ixF_Jl fr = ee;clear fr;refine qq ?_;refine qq ?_;refine qj fun K hK => ?_;refine qm ?_;refine qm ?_;refine qn ?_;simp only [List.length_map];refine qg ?_;refine qe hK ?_;refine EvC.cond (by rfl) (fun h1 => ?_) (fun h1 => ?_) <;> try simp only [decide_eq_true_eq,decide_eq_false_iff_not] at h1
  ·refine EvC.skip ?_
   obtain ⟨p,hp⟩ : ∃ p,l[i]? = some p := ⟨l[i]'(by omega),List.getElem?_eq_getElem _⟩
   obtain ⟨q,hq⟩ : ∃ q,m[i]? = some q := ⟨m[i]'(by omega),List.getElem?_eq_getElem _⟩
   have hr1 := int_get hp;have hr2 := int_get hq;refine qq ?_;refine EvC.block ?_;refine qq ?_;refine qj fun K hK => ?_;refine qm ?_;refine qm ?_;refine qr fun p19 hp19 => ?_;refine qR ?_;refine qm ?_;refine qm ?_;refine qr fun p23 hp23 => ?_;refine qR ?_;refine qg ?_;refine qe hK ?_;refine EvC.cond (by rfl) (fun h2 => ?_) (fun h2 => ?_) <;> try simp only [bne_iff_ne,bne_eq_false_iff_eq,ne_eq] at h2
   ·refine qq ?_;refine qj fun K hK => ?_;refine qm ?_;refine qe hK ?_;rw [decide_eq_false (ne_of_get hp hq (by simpa using h2))];refine EvC.ret ⟨rx,_,rfl,rl hSb hH (rfl)⟩
   ·refine EvC.skip ?_;refine qj fun K hK => ?_;refine qm ?_;refine qA ?_;refine qm ?_;refine qe hK ?_;exact ⟨mm - 1,by omega,⟨i + 1,rfl,hH,by omega,take_eq_step hp hq ht (by simpa using h2)⟩⟩
  ·refine EvC.exit ?_;refine qq ?_;refine qj fun K hK => ?_;refine qm ?_;refine qe hK ?_;rw [decide_eq_true (by rw [List.take_of_length_le (by omega),List.take_of_length_le (by omega)] at ht; exact ht)];refine EvC.ret ⟨rx,_,rfl,rl hSb hH (rfl)⟩
 ·refine qD rfl (by simp; omega) ?_;refine qq ?_;refine qj fun K hK => ?_;refine qm ?_;refine qe hK ?_;rw [decide_eq_false (fun h => hlen (by rw [h]))];refine EvC.ret ⟨rx,_,rfl,rl hSb hH (rfl)⟩
theorem sameRange_ev {s0 : St} {x y : D} {l m : List Rg} (hx : V.Rows s0 2 x (l.map rangeC)) (hy : V.Rows s0 2 y (m.map rangeC)) (hl : l.length <= 1073741824) (hm : m.length <= 1073741824) : Ev pv 57 [x,y] s0 (.bool (decide (l = m))) s0 := by
 refine Ev.mk1 rfl fi57 rfl rfl rfl ?_;dsimp only [u3,u4,List.length,Nat.reduceSub,Nat.reduceAdd,w1,w2];obtain ⟨hSb,hF,hH⟩ := ri s0;generalize enterSt .ro s0 = S at *;have hx := Arg.of hx hSb;have hy := Arg.of hy hSb;refine qq ?_;refine qj fun K hK => ?_;refine qm ?_;refine qe hK ?_;refine qq ?_;refine qq ?_;refine qj fun K hK => ?_;refine qm ?_;refine qn ?_;simp only [List.length_map];refine qm ?_;refine qn ?_;simp only [List.length_map];refine qg ?_;refine qe hK ?_
 by_cases hlen : l.length = m.length
 ·refine qE rfl (by rw [hlen]; simp) ?_;refine EvC.skip ?_;refine qq ?_;refine qq ?_;refine qj fun K hK => ?_;refine qm ?_;refine qe hK ?_;refine EvC.block ?_;refine EvC.loop (fun mm fr st => ∃ (i : Nat),fr.clean = ⟨6, [x,y,ixF_Jl fr 2,ixF_Jl fr 3, .bool false, .int .i64 (i : Nat)], []⟩ /\ Has s0.bs.length S st [] /\ (i + mm = l.length) /\ (l.take i = m.take i)) (l.length) ?_ ?_
  ·exact ⟨0,rfl,hH,by omega,rfl⟩
  rintro mm fr st ⟨i,hfr,hH,hi,ht⟩;rw [hfr];clear hfr;generalize ixF_Jl fr = ee;clear fr;refine qq ?_;refine qq ?_;refine qj fun K hK => ?_;refine qm ?_;refine qm ?_;refine qn ?_;simp only [List.length_map];refine qg ?_;refine qe hK ?_;refine EvC.cond (by rfl) (fun h1 => ?_) (fun h1 => ?_) <;> try simp only [decide_eq_true_eq,decide_eq_false_iff_not] at h1
  ·refine EvC.skip ?_
   obtain ⟨p,hp⟩ : ∃ p,l[i]? = some p := ⟨l[i]'(by omega),List.getElem?_eq_getElem _⟩
   obtain ⟨q,hq⟩ : ∃ q,m[i]? = some q := ⟨m[i]'(by omega),List.getElem?_eq_getElem _⟩
   have hr1 := range_get hp;have hr2 := range_get hq;refine qq ?_;refine EvC.block ?_;refine qq ?_;refine qj fun K hK => ?_;refine qm ?_;refine qm ?_;refine qr fun p19 hp19 => ?_;refine EvO.rloadS rfl (ev rfl) (by assumption) rfl (put_T rfl _) ?_;refine qm ?_;refine qm ?_;refine qr fun p23 hp23 => ?_;refine EvO.rloadS rfl (ev rfl) (by assumption) rfl (put_T rfl _) ?_;refine EvO.neB rfl (ev rfl) (ev rfl) (neq_range p q) (put_T rfl _) ?_;refine qe hK ?_;refine EvC.cond (by rfl) (fun h2 => ?_) (fun h2 => ?_) <;> try simp only [decide_eq_true_eq,decide_eq_false_iff_not,Bool.not_eq_true',Bool.not_eq_false'] at h2
   ·refine qq ?_;refine qj fun K hK => ?_;refine qm ?_;refine qe hK ?_;rw [decide_eq_false (ne_of_get hp hq (by simpa using h2))];refine EvC.ret ⟨rx,_,rfl,rl hSb hH (rfl)⟩
   ·refine EvC.skip ?_;refine qj fun K hK => ?_;refine qm ?_;refine qA ?_;refine qm ?_;refine qe hK ?_;exact ⟨mm - 1,by omega,⟨i + 1,rfl,hH,by omega,take_eq_step hp hq ht (by simpa using h2)⟩⟩
  ·refine EvC.exit ?_;refine qq ?_;refine qj fun K hK => ?_;refine qm ?_;refine qe hK ?_;rw [decide_eq_true (by rw [List.take_of_length_le (by omega),List.take_of_length_le (by omega)] at ht; exact ht)];refine EvC.ret ⟨rx,_,rfl,rl hSb hH (rfl)⟩
 ·refine qD rfl (by simp; omega) ?_;refine qq ?_;refine qj fun K hK => ?_;refine qm ?_;refine qe hK ?_;rw [decide_eq_false (fun h => hlen (by rw [h]))];refine EvC.ret ⟨rx,_,rfl,rl hSb hH (rfl)⟩
structure Nod where
  op : Int
  rd : D
  rs : List Rg
  mn : Int
  mx : Int
  lz : Bool
  cap : Int
  kids : Int
def nodC (n : Nod) : List D := [.int .i64 n.op,n.rd, .int .i64 n.mn, .int .i64 n.mx, .bool n.lz, .int .i64 n.cap, .int .i64 n.kids]
def Nod.ok (n : Nod) : Prop := SlD n.rd 2 (n.rs.map rangeC) /\ n.rs.length <= 1048576 /\ n.kids <= 9223372036854775807
structure Nl where
  d : D
  l : List Nod
structure Nl.ok (x : Nl) : Prop where
  c : SlD x.d 7 (x.l.map nodC)
  i : ∀ n ∈ x.l,n.ok
  nl : x.l.length <= 1048576
theorem nod_get {l : List Nod} {i : Nat} {q : Nod} (h : l[i]? = some q) : (l.map nodC)[i]? = some (nodC q) := by rw [List.getElem?_map,h]; rfl
mutual
inductive Tr where
  | mk (n : Nod) (ks : Trs)
inductive Trs where
  | nil
  | cons (t : Tr) (ts : Trs)
end
def Trs.len : Trs -> Nat
  | .nil => 0
  | .cons _ ts => ts.len + 1
mutual
def Tr.flat : Tr -> List Nod
  | .mk n ks => n :: ks.flat
def Trs.flat : Trs -> List Nod
  | .nil => []
  | .cons t ts => t.flat ++ ts.flat
end
def nodOk (n : Nod) (nk : Nat) : Prop :=
  n.kids = (nk : Int) /\ (((n.op = 1 \/ n.op = 7 \/ n.op = 8) /\ nk = 0) \/ (n.op = 2 /\ nk = 0) \/ ((n.op = 3 \/ n.op = 4) /\ 2 <= nk) \/
    (n.op = 5 /\ nk = 1 /\ 0 <= n.mn /\ n.mn <= 30 /\ (n.mx = -1 \/ (n.mn <= n.mx /\ n.mx <= 30))) \/ (n.op = 6 /\ nk = 1 /\ 1 <= n.cap /\ n.cap <= 4))
mutual
def Tr.ok : Tr -> Prop
  | .mk n ks => nodOk n ks.len /\ ks.ok
def Trs.ok : Trs -> Prop
  | .nil => True
  | .cons t ts => t.ok /\ ts.ok
end
def nodSz (n : Nod) (s k : Nat) : Nat :=
  if n.op = 2 \/ n.op = 7 \/ n.op = 8 then 1
  else if n.op = 4 then s + 2 * (k - 1)
  else if n.op = 6 then s + 2
  else if n.op = 5 then (if n.mx = -1 then n.mn.toNat * s + s + 2 else n.mn.toNat * s + (n.mx.toNat - n.mn.toNat) * (s + 1))
  else s
mutual
def Tr.sz : Tr -> Nat
  | .mk n ks => nodSz n ks.sz ks.len
def Trs.sz : Trs -> Nat
  | .nil => 0
  | .cons t ts => t.sz + ts.sz
end
def mkI (op x y : Int) (rs : List Rg) : PIns := ⟨op,x,y, .sl ((rs.map rangeC).map (elD 2)),rs⟩
def spI (s o : Nat) (lz : Bool) : PIns := if lz = true then mkI 2 (o : Nat) ((s + 1 : Nat) : Int) [] else mkI 2 ((s + 1 : Nat) : Int) (o : Nat) []
def jpI (e : Nat) : PIns := mkI 3 (e : Nat) 0 []
def repC (c : Nat -> List PIns) (z : Nat) : Nat -> Nat -> List PIns
  | 0,_ => []
  | k + 1,b => c b ++ repC c z k (b + z)
def optC (sp : Nat -> PIns) (c : Nat -> List PIns) (z : Nat) : Nat -> Nat -> List PIns
  | 0,_ => []
  | k + 1,b => sp b :: (c (b + 1) ++ optC sp c z k (b + 1 + z))
def optJ (z : Nat) : Nat -> Nat -> List Nat
  | 0,_ => []
  | k + 1,b => b :: optJ z k (b + 1 + z)
def rptC (n : Nod) (c : Nat -> List PIns) (z b : Nat) : List PIns :=
  if n.mx = -1 then repC c z n.mn.toNat b ++ (spI (b + n.mn.toNat * z) (b + n.mn.toNat * z + z + 2) n.lz :: (c (b + n.mn.toNat * z + 1) ++ [jpI (b + n.mn.toNat * z)]))
  else repC c z n.mn.toNat b ++ optC (fun s => spI s (b + n.mn.toNat * z + (n.mx.toNat - n.mn.toNat) * (z + 1)) n.lz) c z (n.mx.toNat - n.mn.toNat) (b + n.mn.toNat * z)
mutual
def codeT : Tr -> Nat -> List PIns
  | .mk n ks,b =>
    if n.op = 2 then [mkI 1 0 0 n.rs]
    else if n.op = 7 then [mkI 5 0 0 []]
    else if n.op = 8 then [mkI 6 0 0 []]
    else if n.op = 3 then catT ks b
    else if n.op = 4 then altT (jpI (b + nodSz n ks.sz ks.len)) ks b
    else if n.op = 5 then rptC n (catT ks) ks.sz b
    else if n.op = 6 then mkI 4 (2 * n.cap) 0 [] :: (catT ks (b + 1) ++ [mkI 4 (2 * n.cap + 1) 0 []])
    else []
def catT : Trs -> Nat -> List PIns
  | .nil,_ => []
  | .cons t ts,b => codeT t b ++ catT ts (b + t.sz)
def altT (jp : PIns) : Trs -> Nat -> List PIns
  | .nil,_ => []
  | .cons t ts,b => if ts.len = 0 then codeT t b else spI b (b + 1 + t.sz + 1) false :: (codeT t (b + 1) ++ jp :: altT jp ts (b + t.sz + 2))
end
def altJ : Trs -> Nat -> List Nat
  | .nil,_ => []
  | .cons t ts,b => if ts.len = 0 then [] else (b + 1 + t.sz) :: altJ ts (b + t.sz + 2)
theorem repC_len {c : Nat -> List PIns} {z : Nat} (hc : ∀ b,(c b).length = z) : ∀ k b,(repC c z k b).length = k * z
  | 0,b => by simp [repC]
  | k + 1,b => by rw [repC,List.length_append,hc,repC_len hc k,Nat.add_mul]; omega
theorem optC_len {sp : Nat -> PIns} {c : Nat -> List PIns} {z : Nat} (hc : ∀ b,(c b).length = z) : ∀ k b,(optC sp c z k b).length = k * (z + 1)
  | 0,b => by simp [optC]
  | k + 1,b => by rw [optC,List.length_cons,List.length_append,hc,optC_len hc k,Nat.add_mul]; omega
theorem rptC_len {n : Nod} {c : Nat -> List PIns} {z b : Nat} (hc : ∀ b,(c b).length = z) (h : n.op = 5) : (rptC n c z b).length = nodSz n z 1 := by
  unfold rptC nodSz
  rw [if_neg (show ¬ (n.op = 2 \/ n.op = 7 \/ n.op = 8) by omega),if_neg (show ¬ n.op = 4 by omega),if_neg (show ¬ n.op = 6 by omega),if_pos h]
  split
  · rw [List.length_append,repC_len hc,List.length_cons,List.length_append,hc]; simp only [List.length_cons,List.length_nil]; omega
  · rw [List.length_append,repC_len hc,optC_len hc]
theorem Trs.len_one {ks : Trs} (h : ks.len = 1) : ∃ t,ks = .cons t .nil := by
  cases ks with
  | nil => simp [Trs.len] at h
  | cons t ts => cases ts with
    | nil => exact ⟨t,rfl⟩
    | cons u us => simp [Trs.len] at h
theorem Trs.len_nil {ks : Trs} (h : ks.len = 0) : ks = .nil := by
  cases ks with
  | nil => rfl
  | cons t ts => simp [Trs.len] at h
mutual
theorem codeT_len : ∀ (t : Tr) (b : Nat),t.ok -> (codeT t b).length = t.sz
  | .mk n ks,b,h => by
    simp only [Tr.ok] at h
    obtain ⟨h1,h2⟩ := h
    have hc := fun b => catT_len ks b h2
    have ha := fun jp b => altT_len jp ks b h2
    simp only [codeT,Tr.sz]
    obtain ⟨_,⟨h3,h4⟩ | ⟨h3,h4⟩ | ⟨h3,h4⟩ | ⟨h3,h4,h5⟩ | ⟨h3,h4,h5⟩⟩ := h1
    · have hk := Trs.len_nil h4
      subst hk
      by_cases q7 : n.op = 7
      · simp [q7,nodSz]
      · by_cases q8 : n.op = 8
        · simp [q8,nodSz]
        · have q1 : n.op = 1 := by omega
          simp [q1,nodSz,Trs.sz]
    · simp [h3,nodSz]
    · rcases h3 with h3 | h3
      · simp [h3,nodSz,hc]
      · simp [h3,nodSz,ha]
    · have := rptC_len (n := n) (b := b) hc h3
      simp only [h3] at this ⊢
      simp only [show ¬ ((5 : Int) = 2) by decide,show ¬ ((5 : Int) = 7) by decide,show ¬ ((5 : Int) = 8) by decide,show ¬ ((5 : Int) = 3) by decide,show ¬ ((5 : Int) = 4) by decide,if_false,if_true]
      rw [this,h4]
    · simp [h3,nodSz,hc]
theorem catT_len : ∀ (ts : Trs) (b : Nat),ts.ok -> (catT ts b).length = ts.sz
  | .nil,b,_ => by simp [catT,Trs.sz]
  | .cons t ts,b,h => by
    simp only [Trs.ok] at h
    simp only [catT,Trs.sz,List.length_append]
    rw [codeT_len t b h.1,catT_len ts _ h.2]
theorem altT_len (jp : PIns) : ∀ (ts : Trs) (b : Nat),ts.ok -> (altT jp ts b).length = ts.sz + 2 * (ts.len - 1)
  | .nil,b,_ => by simp [altT,Trs.sz,Trs.len]
  | .cons t ts,b,h => by
    simp only [Trs.ok] at h
    have h1 := altT_len jp ts (b + t.sz + 2) h.2
    simp only [altT,Trs.sz,Trs.len]
    by_cases q : ts.len = 0
    · rw [if_pos q,codeT_len t b h.1,q]
      have := Trs.len_nil q
      subst this
      simp [Trs.sz]
    · rw [if_neg q,List.length_cons,List.length_append,List.length_cons,codeT_len t _ h.1,h1]
      omega
end
def setAll (f : Nat -> PIns) (c : List PIns) (l : List Nat) : List PIns := l.foldl (fun c j => c.set j (f j)) c
theorem set_mid {α : Type} (pre post : List α) (x y : α) : (pre ++ x :: post).set pre.length y = pre ++ y :: post := by
  rw [List.set_append_right _ _ (Nat.le_refl _),Nat.sub_self]; rfl
theorem get_mid {α : Type} (pre post : List α) (x : α) : (pre ++ x :: post)[pre.length]? = some x := by
  rw [List.getElem?_append_right (Nat.le_refl _),Nat.sub_self]; rfl
theorem opt_patch {sp : Nat -> PIns} {c : Nat -> List PIns} {z : Nat} (hc : ∀ b,(c b).length = z) {i0 : PIns} : ∀ (k b : Nat) (pre post : List PIns),pre.length = b -> setAll sp (pre ++ optC (fun _ => i0) c z k b ++ post) (optJ z k b) = pre ++ optC sp c z k b ++ post /\ ∀ j ∈ optJ z k b,(pre ++ optC (fun _ => i0) c z k b ++ post)[j]? = some i0
  | 0,b,pre,post,_ => ⟨rfl,fun j hj => by cases hj⟩
  | k + 1,b,pre,post,h => by
    have ih := opt_patch (sp := sp) hc (i0 := i0) k (b + 1 + z) (pre ++ i0 :: c (b + 1)) post (by rw [List.length_append,List.length_cons,hc]; omega)
    have ih2 := opt_patch (sp := sp) hc (i0 := i0) k (b + 1 + z) (pre ++ sp b :: c (b + 1)) post (by rw [List.length_append,List.length_cons,hc]; omega)
    simp only [optC,optJ]
    have e : pre ++ i0 :: (c (b + 1) ++ optC (fun _ => i0) c z k (b + 1 + z)) ++ post = pre ++ i0 :: (c (b + 1) ++ optC (fun _ => i0) c z k (b + 1 + z) ++ post) := by simp
    have e2 : pre ++ i0 :: c (b + 1) ++ optC (fun _ => i0) c z k (b + 1 + z) ++ post = pre ++ i0 :: (c (b + 1) ++ optC (fun _ => i0) c z k (b + 1 + z) ++ post) := by simp
    refine ⟨?_,fun j hj => ?_⟩
    · unfold setAll at ih2 ⊢
      rw [List.foldl_cons,e]
      have hs : (pre ++ i0 :: (c (b + 1) ++ optC (fun _ => i0) c z k (b + 1 + z) ++ post)).set b (sp b) = pre ++ sp b :: c (b + 1) ++ optC (fun _ => i0) c z k (b + 1 + z) ++ post := by
        rw [<- h,set_mid]; simp
      rw [hs,ih2.1]; simp
    · rw [e]
      rcases List.mem_cons.1 hj with rfl | hj
      · rw [<- h]; exact get_mid _ _ _
      · rw [<- e2]; exact ih.2 j hj
theorem alt_patch {jp i0 : PIns} : ∀ (ts : Trs) (b : Nat) (pre post : List PIns),ts.ok -> pre.length = b -> setAll (fun _ => jp) (pre ++ altT i0 ts b ++ post) (altJ ts b) = pre ++ altT jp ts b ++ post /\ ∀ j ∈ altJ ts b,(pre ++ altT i0 ts b ++ post)[j]? = some i0
  | .nil,b,pre,post,_,_ => ⟨by simp [altT,altJ,setAll],fun j hj => by simp [altJ] at hj⟩
  | .cons t ts,b,pre,post,hok,h => by
    simp only [Trs.ok] at hok
    by_cases q : ts.len = 0
    · simp only [altT,altJ,if_pos q]
      exact ⟨rfl,fun j hj => by cases hj⟩
    · simp only [altT,altJ,if_neg q]
      generalize spI b (b + 1 + t.sz + 1) false = sp
      have hcl := codeT_len t (b + 1) hok.1
      have ih := alt_patch (jp := jp) (i0 := i0) ts (b + t.sz + 2) (pre ++ sp :: (codeT t (b + 1) ++ [i0])) post hok.2 (by simp only [List.length_append,List.length_cons,List.length_nil,hcl]; omega)
      have ih2 := alt_patch (jp := jp) (i0 := i0) ts (b + t.sz + 2) (pre ++ sp :: (codeT t (b + 1) ++ [jp])) post hok.2 (by simp only [List.length_append,List.length_cons,List.length_nil,hcl]; omega)
      generalize altT i0 ts (b + t.sz + 2) = A at *
      have e : pre ++ sp :: (codeT t (b + 1) ++ i0 :: A) ++ post = (pre ++ sp :: codeT t (b + 1)) ++ i0 :: (A ++ post) := by simp
      have hl : (pre ++ sp :: codeT t (b + 1)).length = b + 1 + t.sz := by simp only [List.length_append,List.length_cons,hcl]; omega
      refine ⟨?_,fun j hj => ?_⟩
      · unfold setAll at ih2 ⊢
        rw [List.foldl_cons,e, <- hl,set_mid]
        have := ih2.1
        simp only [List.append_assoc,List.cons_append,List.nil_append] at this ⊢
        exact this
      · rw [e]
        rcases List.mem_cons.1 hj with rfl | hj
        · rw [<- hl]; exact get_mid _ _ _
        · have := ih.2 j hj
          simp only [List.append_assoc,List.cons_append,List.nil_append] at this ⊢
          exact this
def Seg {α : Type} (L : List α) (at_ : Nat) (M : List α) : Prop := ∃ post,L.drop at_ = M ++ post
theorem Seg.head {α : Type} {L M : List α} {a : α} {at_ : Nat} (h : Seg L at_ (a :: M)) : L[at_]? = some a := by
  obtain ⟨post,h⟩ := h
  have := congrArg (·[0]?) h
  simpa using this
theorem Seg.tail {α : Type} {L M : List α} {a : α} {at_ : Nat} (h : Seg L at_ (a :: M)) : Seg L (at_ + 1) M := by
  obtain ⟨post,h⟩ := h
  refine ⟨post,?_⟩
  rw [<- List.drop_drop,h]; rfl
theorem Seg.left {α : Type} {L M M' : List α} {at_ : Nat} (h : Seg L at_ (M ++ M')) : Seg L at_ M := by
  obtain ⟨post,h⟩ := h
  exact ⟨M' ++ post,by rw [h,List.append_assoc]⟩
theorem Seg.right {α : Type} {L M M' : List α} {at_ : Nat} (h : Seg L at_ (M ++ M')) : Seg L (at_ + M.length) M' := by
  obtain ⟨post,h⟩ := h
  refine ⟨post,?_⟩
  rw [<- List.drop_drop,h,List.append_assoc,List.drop_left]
theorem Seg.le {α : Type} {L M : List α} {at_ : Nat} (h : Seg L at_ M) (hM : M ≠ []) : at_ + M.length <= L.length := by
  obtain ⟨post,h⟩ := h
  have := congrArg List.length h
  simp only [List.length_drop,List.length_append] at this
  have : 0 < M.length := by cases M with | nil => exact absurd rfl hM | cons _ _ => simp
  omega
theorem Seg.all {α : Type} (L : List α) : Seg L 0 L := ⟨[],by simp⟩
mutual
def Tr.zs : Tr -> List Int
  | .mk n ks => ((min (nodSz n ks.sz ks.len) 401 : Nat) : Int) :: ks.zs
def Trs.zs : Trs -> List Int
  | .nil => []
  | .cons t ts => t.zs ++ ts.zs
end
mutual
def Tr.es : Tr -> Nat -> List Int
  | .mk n ks,at_ => ((at_ + 1 + ks.flat.length : Nat) : Int) :: ks.es (at_ + 1)
def Trs.es : Trs -> Nat -> List Int
  | .nil,_ => []
  | .cons t ts,at_ => t.es at_ ++ ts.es (at_ + t.flat.length)
end
mutual
theorem Tr.zs_len : ∀ t : Tr,t.zs.length = t.flat.length
  | .mk n ks => by simp [Tr.zs,Tr.flat,Trs.zs_len ks]
theorem Trs.zs_len : ∀ ts : Trs,ts.zs.length = ts.flat.length
  | .nil => rfl
  | .cons t ts => by simp [Trs.zs,Trs.flat,Tr.zs_len t,Trs.zs_len ts]
end
mutual
theorem Tr.es_len : ∀ (t : Tr) (a : Nat),(t.es a).length = t.flat.length
  | .mk n ks,a => by simp [Tr.es,Tr.flat,Trs.es_len ks]
theorem Trs.es_len : ∀ (ts : Trs) (a : Nat),(ts.es a).length = ts.flat.length
  | .nil,_ => rfl
  | .cons t ts,a => by simp [Trs.es,Trs.flat,Tr.es_len t,Trs.es_len ts]
end
theorem Tr.flat_pos (t : Tr) : 0 < t.flat.length := by cases t; simp [Tr.flat]
theorem Trs.len_le : ∀ ts : Trs,ts.len <= ts.flat.length
  | .nil => Nat.le_refl _
  | .cons t ts => by
    have h1 := Trs.len_le ts
    have h2 := t.flat_pos
    simp only [Trs.len,Trs.flat,List.length_append]; omega
def plainN (n : Nod) : Bool := ((n.op == 2) || ((n.rs.length : Nat) : Int) == 0) && ((n.op == 5) || ((n.mn == 0) && (n.mx == 0) && !n.lz)) && ((n.op == 6) || (n.cap == 0))
noncomputable def shapeN (n : Nod) (g : Int) : Int × Bool :=
  if plainN n = false then (0,false)
  else if n.op = 1 \/ n.op = 7 \/ n.op = 8 then (0,n.kids == 0)
  else if n.op = 2 then (0,(n.kids == 0) && rightS n.rs)
  else if n.op = 3 \/ n.op = 4 then (n.kids,decide (n.kids >= 2))
  else if n.op = 5 then (1,(n.kids == 1) && decide (n.mn >= 0) && decide (n.mn <= 30) && ((n.mx == -1) || (decide (n.mx >= n.mn) && decide (n.mx <= 30))))
  else if n.op = 6 then (1,(n.kids == 1) && (n.cap == g + 1) && decide (n.cap <= 4))
  else (0,false)
def kidsS (h : Nat -> Nat -> Option (Nat × Nat)) : Nat -> Nat -> Nat -> Option (Nat × Nat)
  | 0,at_,g => some (at_,g)
  | k + 1,at_,g => match h at_ g with
    | some r => kidsS h k r.1 r.2
    | none => none
noncomputable def oneW (l : List Nod) : Nat -> Nat -> Nat -> Option (Nat × Nat)
  | 0,_,_ => none
  | f + 1,at_,g => match l[at_]? with
    | none => none
    | some n => if (shapeN n (g : Nat)).2 = true then kidsS (oneW l f) (shapeN n (g : Nat)).1.toNat (at_ + 1) (if n.op = 6 then g + 1 else g) else none
theorem shape_ok {n : Nod} {g : Nat} (h : (shapeN n (g : Nat)).2 = true) : nodOk n (shapeN n (g : Nat)).1.toNat /\ 0 <= (shapeN n (g : Nat)).1 /\ (n.op = 6 -> n.cap = g + 1 /\ n.cap <= 4) := by
  unfold shapeN at h ⊢
  unfold nodOk
  by_cases h0 : plainN n = false
  · rw [if_pos h0] at h; cases h
  rw [if_neg h0] at h ⊢
  by_cases h1 : n.op = 1 \/ n.op = 7 \/ n.op = 8
  · rw [if_pos h1] at h ⊢
    simp only [beq_iff_eq] at h
    exact ⟨⟨h, .inl ⟨h1,rfl⟩⟩,Int.le_refl _,fun h6 => by omega⟩
  rw [if_neg h1] at h ⊢
  by_cases h2 : n.op = 2
  · rw [if_pos h2] at h ⊢
    simp only [Bool.and_eq_true,beq_iff_eq] at h
    exact ⟨⟨h.1, .inr (.inl ⟨h2,rfl⟩)⟩,Int.le_refl _,fun h6 => by omega⟩
  rw [if_neg h2] at h ⊢
  by_cases h3 : n.op = 3 \/ n.op = 4
  · rw [if_pos h3] at h ⊢
    simp only [decide_eq_true_eq] at h
    exact ⟨⟨by simp only; omega, .inr (.inr (.inl ⟨h3,by simp only; omega⟩))⟩,by simp only; omega,fun h6 => by omega⟩
  rw [if_neg h3] at h ⊢
  by_cases h5 : n.op = 5
  · rw [if_pos h5] at h ⊢
    simp only [Bool.and_eq_true,Bool.or_eq_true,beq_iff_eq,decide_eq_true_eq] at h
    exact ⟨⟨by simp only; omega, .inr (.inr (.inr (.inl ⟨h5,by simp only; rfl,by omega,by omega,by omega⟩)))⟩,by simp only; omega,fun h6 => by omega⟩
  rw [if_neg h5] at h ⊢
  by_cases h6 : n.op = 6
  · rw [if_pos h6] at h ⊢
    simp only [Bool.and_eq_true,beq_iff_eq,decide_eq_true_eq] at h
    exact ⟨⟨by simp only; omega, .inr (.inr (.inr (.inr ⟨h6,by simp only; rfl,by omega,by omega⟩)))⟩,by simp only; omega,fun _ => ⟨h.1.2,h.2⟩⟩
  rw [if_neg h6] at h
  cases h
theorem Seg.cons {α : Type} {L M : List α} {a : α} {at_ : Nat} (h : L[at_]? = some a) (h2 : Seg L (at_ + 1) M) : Seg L at_ (a :: M) := by
  obtain ⟨post,h2⟩ := h2
  refine ⟨post,?_⟩
  have h3 : L[at_]'(lt_get h) = a := Option.some.inj ((List.getElem?_eq_getElem _).symm.trans h)
  rw [List.drop_eq_getElem_cons (lt_get h),h2,h3]; rfl
theorem Seg.append {α : Type} {L M M' : List α} {at_ : Nat} (h : Seg L at_ M) (h2 : Seg L (at_ + M.length) M') : Seg L at_ (M ++ M') := by
  obtain ⟨post,h⟩ := h
  obtain ⟨post',h2⟩ := h2
  refine ⟨post',?_⟩
  rw [<- List.drop_drop,h,List.drop_left] at h2
  rw [h,h2,List.append_assoc]
theorem Seg.none {α : Type} (L : List α) (at_ : Nat) : Seg L at_ [] := ⟨_,rfl⟩
theorem kids_tree {l : List Nod} {h : Nat -> Nat -> Option (Nat × Nat)} (ih : ∀ at_ g r,h at_ g = some r -> ∃ t : Tr,t.ok /\ Seg l at_ t.flat /\ r.1 = at_ + t.flat.length) : ∀ k at_ g r,kidsS h k at_ g = some r -> ∃ ts : Trs,ts.len = k /\ ts.ok /\ Seg l at_ ts.flat /\ r.1 = at_ + ts.flat.length
  | 0,at_,g,r,e => by
    simp only [kidsS,Option.some.injEq] at e
    subst e
    exact ⟨.nil,rfl,trivial,Seg.none _ _,by simp [Trs.flat]⟩
  | k + 1,at_,g,r,e => by
    unfold kidsS at e
    cases hq : h at_ g with
    | none => rw [hq] at e; cases e
    | some q =>
      rw [hq] at e
      obtain ⟨t,t1,t2,t3⟩ := ih _ _ _ hq
      obtain ⟨ts,u1,u2,u3,u4⟩ := kids_tree ih k _ _ _ e
      rw [t3] at u3 u4
      exact ⟨.cons t ts,by simp [Trs.len,u1],by simp only [Trs.ok]; exact ⟨t1,u2⟩,by simp only [Trs.flat]; exact t2.append u3,by rw [u4]; simp only [Trs.flat,List.length_append]; omega⟩
theorem one_tree {l : List Nod} : ∀ f at_ g r,oneW l f at_ g = some r -> ∃ t : Tr,t.ok /\ Seg l at_ t.flat /\ r.1 = at_ + t.flat.length
  | 0,_,_,_,e => by simp [oneW] at e
  | f + 1,at_,g,r,e => by
    unfold oneW at e
    cases hn : l[at_]? with
    | none => rw [hn] at e; cases e
    | some n =>
      rw [hn] at e
      simp only at e
      split at e
      · rename_i hs
        obtain ⟨ts,u1,u2,u3,u4⟩ := kids_tree (one_tree f) _ _ _ _ e
        have := (shape_ok hs).1
        rw [<- u1] at this
        exact ⟨.mk n ts,by simp only [Tr.ok]; exact ⟨this,u2⟩,by simp only [Tr.flat]; exact Seg.cons hn u3,by rw [u4]; simp only [Tr.flat,List.length_cons]; omega⟩
      · cases e
noncomputable def rightN (l : List Nod) : Bool := (decide (1 <= l.length) && decide (l.length <= 480)) && (match oneW l 241 0 0 with | some r => decide (r.1 = l.length) | none => false)
theorem right_tree {l : List Nod} (h : rightN l = true) : ∃ t : Tr,t.ok /\ t.flat = l := by
  unfold rightN at h
  simp only [Bool.and_eq_true] at h
  obtain ⟨_,h⟩ := h
  split at h
  · rename_i r hr
    obtain ⟨t,h1,⟨post,h2⟩,h3⟩ := one_tree _ _ _ _ hr
    rw [decide_eq_true_eq] at h
    refine ⟨t,h1,?_⟩
    rw [List.drop_zero] at h2
    have h4 := congrArg List.length h2
    rw [List.length_append] at h4
    have h5 : post = [] := List.length_eq_zero_iff.1 (by omega)
    rw [h2,h5,List.append_nil]
  · cases h
noncomputable def treeN (l : List Nod) : Tr := @dite _ (∃ t : Tr,t.ok /\ t.flat = l) (Classical.propDecidable _) (fun h => Classical.choose h) (fun _ => .mk ⟨0, .nul, [],0,0,false,0,0⟩ .nil)
theorem tree_is {l : List Nod} (h : rightN l = true) : (treeN l).ok /\ (treeN l).flat = l := by
  unfold treeN
  rw [dif_pos (right_tree h)]
  exact Classical.choose_spec (right_tree h)
theorem cap_nod {n : Nod} {k s : Nat} : min (nodSz n (min s 401) k) 401 = min (nodSz n s k) 401 := by
  by_cases hs : s <= 401
  · rw [Nat.min_eq_left hs]
  · have hx : min s 401 = 401 := by omega
    rw [hx]
    unfold nodSz
    split
    · rfl
    · split
      · omega
      · split
        · omega
        · split
          · split
            · omega
            · by_cases h0 : n.mn.toNat = 0
              · rw [h0]
                by_cases hd : n.mx.toNat - 0 = 0
                · rw [hd]; simp
                · have h1 := Nat.le_mul_of_pos_left (401 + 1) (show 0 < n.mx.toNat - 0 by omega)
                  have h2 := Nat.le_mul_of_pos_left (s + 1) (show 0 < n.mx.toNat - 0 by omega)
                  omega
              · have h1 := Nat.le_mul_of_pos_left 401 (show 0 < n.mn.toNat by omega)
                have h2 := Nat.le_mul_of_pos_left s (show 0 < n.mn.toNat by omega)
                omega
          · omega
def ruleC (t : Tr) (b r : Nat) : List PIns := mkI 4 0 0 [] :: (codeT t (b + 1) ++ [mkI 4 1 0 [],mkI 7 (r : Nat) 0 []])
theorem ruleC_len {t : Tr} {b r : Nat} (h : t.ok) : (ruleC t b r).length = t.sz + 3 := by
  unfold ruleC
  rw [List.length_cons,List.length_append,codeT_len t _ h]; rfl
structure CompR where
  code : List PIns
  starts : List Int
  e : Int
  w : Int
noncomputable def compS : List (List Nod) -> Nat -> List PIns -> List Int -> CompR
  | [],_,c,s => ⟨c,s,0,0⟩
  | l :: ls,r,c,s => if rightN l = false then ⟨[], [],1,(r : Nat)⟩ else if 400 < c.length + min (treeN l).sz 401 + 3 then ⟨[], [],12,(r : Nat)⟩ else compS ls (r + 1) (c ++ ruleC (treeN l) c.length r) (s ++ [((c.length : Nat) : Int)])
noncomputable def compileS (rules : List (List Nod)) : CompR := if 8 < rules.length then ⟨[], [],13,8⟩ else compS rules 0 [] []
def pgV (code : List PIns) (starts : List Int) : Pg := ⟨.sl ((code.map insC).map (elD 4)),code,intsV starts,starts⟩
def InsV (i : PIns) : Prop := i.rd = .sl ((i.rs.map rangeC).map (elD 2)) /\ i.rs.length <= 1048576
theorem mkI_v (op x y : Int) : InsV (mkI op x y []) := ⟨rfl,by simp [mkI]⟩
theorem mkI_r (op x y : Int) {rs : List Rg} (h : rs.length <= 1048576) : InsV (mkI op x y rs) := ⟨rfl,h⟩
theorem spI_v (s o : Nat) (lz : Bool) : InsV (spI s o lz) := by unfold spI; split <;> exact mkI_v _ _ _
theorem jpI_v (e : Nat) : InsV (jpI e) := mkI_v _ _ _
theorem insV_plain {code : List PIns} (h : ∀ i ∈ code,InsV i) : ∀ e ∈ code.map insC, ∀ d ∈ e,plainC d = true := by
  intro e he d hd
  obtain ⟨q,hq,rfl⟩ := List.mem_map.1 he
  have hr := (h q hq).1
  simp only [insC,hr,List.mem_cons,List.not_mem_nil,or_false] at hd
  rcases hd with rfl | rfl | rfl | rfl <;> rfl
theorem ins_len (code : List PIns) : ∀ e ∈ code.map insC,e.length = 4 := by
  intro e he; obtain ⟨q,_,rfl⟩ := List.mem_map.1 he; rfl
theorem pgV_ok {code : List PIns} {starts : List Int} (h : ∀ i ∈ code,InsV i) (h1 : code.length <= 1048576) (h2 : starts.length <= 1048576) : (pgV code starts).ok := by
  refine ⟨SlD.frozen (ins_len code) (insV_plain h),intsV_sl _,fun i hi => ?_,h1,h2⟩
  obtain ⟨h3,h4⟩ := h i hi
  refine ⟨?_,h4⟩
  rw [h3]
  exact SlD.frozen (range_len _) (range_plain _)
theorem repC_v {c : Nat -> List PIns} {z : Nat} (hc : ∀ b, ∀ i ∈ c b,InsV i) : ∀ k b, ∀ i ∈ repC c z k b,InsV i
  | 0,b,i,hi => by cases hi
  | k + 1,b,i,hi => by
    simp only [repC] at hi
    rcases List.mem_append.1 hi with hi | hi
    · exact hc b i hi
    · exact repC_v hc k _ i hi
theorem optC_v {sp : Nat -> PIns} {c : Nat -> List PIns} {z : Nat} (hs : ∀ s,InsV (sp s)) (hc : ∀ b, ∀ i ∈ c b,InsV i) : ∀ k b, ∀ i ∈ optC sp c z k b,InsV i
  | 0,b,i,hi => by cases hi
  | k + 1,b,i,hi => by
    simp only [optC] at hi
    rcases List.mem_cons.1 hi with rfl | hi
    · exact hs _
    · rcases List.mem_append.1 hi with hi | hi
      · exact hc _ i hi
      · exact optC_v hs hc k _ i hi
mutual
theorem codeT_v : ∀ (t : Tr) (b : Nat),(∀ n ∈ t.flat,n.rs.length <= 1048576) -> ∀ i ∈ codeT t b,InsV i
  | .mk n ks,b,h,i,hi => by
    simp only [Tr.flat] at h
    have hn := h n (List.mem_cons_self ..)
    have hk : ∀ n ∈ ks.flat,n.rs.length <= 1048576 := fun m hm => h m (List.mem_cons_of_mem _ hm)
    have hc := fun b => catT_v ks b hk
    have ha := fun jp (hj : InsV jp) b => altT_v jp hj ks b hk
    simp only [codeT] at hi
    split at hi
    · simp only [List.mem_cons,List.not_mem_nil,or_false] at hi; subst hi; exact mkI_r _ _ _ hn
    split at hi
    · simp only [List.mem_cons,List.not_mem_nil,or_false] at hi; subst hi; exact mkI_v _ _ _
    split at hi
    · simp only [List.mem_cons,List.not_mem_nil,or_false] at hi; subst hi; exact mkI_v _ _ _
    split at hi
    · exact hc b i hi
    split at hi
    · exact ha _ (jpI_v _) b i hi
    split at hi
    · unfold rptC at hi
      split at hi
      · rcases List.mem_append.1 hi with hi | hi
        · exact repC_v hc _ _ i hi
        · rcases List.mem_cons.1 hi with rfl | hi
          · exact spI_v _ _ _
          · rcases List.mem_append.1 hi with hi | hi
            · exact hc _ i hi
            · simp only [List.mem_cons,List.not_mem_nil,or_false] at hi; subst hi; exact jpI_v _
      · rcases List.mem_append.1 hi with hi | hi
        · exact repC_v hc _ _ i hi
        · exact optC_v (fun s => spI_v _ _ _) hc _ _ i hi
    split at hi
    · rcases List.mem_cons.1 hi with rfl | hi
      · exact mkI_v _ _ _
      · rcases List.mem_append.1 hi with hi | hi
        · exact hc _ i hi
        · simp only [List.mem_cons,List.not_mem_nil,or_false] at hi; subst hi; exact mkI_v _ _ _
    · cases hi
theorem catT_v : ∀ (ts : Trs) (b : Nat),(∀ n ∈ ts.flat,n.rs.length <= 1048576) -> ∀ i ∈ catT ts b,InsV i
  | .nil,b,_,i,hi => by simp [catT] at hi
  | .cons t ts,b,h,i,hi => by
    simp only [Trs.flat] at h
    simp only [catT] at hi
    rcases List.mem_append.1 hi with hi | hi
    · exact codeT_v t b (fun n hn => h n (List.mem_append_left _ hn)) i hi
    · exact catT_v ts _ (fun n hn => h n (List.mem_append_right _ hn)) i hi
theorem altT_v (jp : PIns) (hj : InsV jp) : ∀ (ts : Trs) (b : Nat),(∀ n ∈ ts.flat,n.rs.length <= 1048576) -> ∀ i ∈ altT jp ts b,InsV i
  | .nil,b,_,i,hi => by simp [altT] at hi
  | .cons t ts,b,h,i,hi => by
    simp only [Trs.flat] at h
    have h1 : ∀ n ∈ t.flat,n.rs.length <= 1048576 := fun n hn => h n (List.mem_append_left _ hn)
    have h2 : ∀ n ∈ ts.flat,n.rs.length <= 1048576 := fun n hn => h n (List.mem_append_right _ hn)
    simp only [altT] at hi
    split at hi
    · exact codeT_v t b h1 i hi
    · rcases List.mem_cons.1 hi with rfl | hi
      · exact spI_v _ _ _
      · rcases List.mem_append.1 hi with hi | hi
        · exact codeT_v t _ h1 i hi
        · rcases List.mem_cons.1 hi with rfl | hi
          · exact hj
          · exact altT_v jp hj ts _ h2 i hi
end
theorem ruleC_v {t : Tr} {b r : Nat} (h : ∀ n ∈ t.flat,n.rs.length <= 1048576) : ∀ i ∈ ruleC t b r,InsV i := by
  intro i hi
  unfold ruleC at hi
  rcases List.mem_cons.1 hi with rfl | hi
  · exact mkI_v _ _ _
  · rcases List.mem_append.1 hi with hi | hi
    · exact codeT_v t _ h i hi
    · simp only [List.mem_cons,List.not_mem_nil,or_false] at hi
      rcases hi with rfl | rfl
      · exact mkI_v _ _ _
      · exact mkI_v _ _ _
end Go.Proofs.Ytnleclohocdkaaa
namespace Go.V
variable {N : Nat} {S st : St} {H : List Ent}
theorem Has.enterRw {s0 : St} (h : Has N S s0 H) : Has N (enterSt .rw s0) (enterSt .rw s0) H :=
  ⟨Ex.refl _ _,Nat.le_trans h.hN h.ex.len,by show s0.ro <= N; rw [h.ex.ro]; exact h.hro,fun i e hi => ⟨e.loc (st := s0) (st' := enterSt .rw s0) (fun k _ => rfl) (h.ok i e hi).1,(h.ok i e hi).2⟩,h.dis⟩
theorem leaveD_rw {kn : Bool} {s0 st : St} {d d' : D} (hd : freezeD st s0.bs.length kn 16 d = some d') : leaveD .rw kn s0 st d = some (d',⟨st.bs.take s0.bs.length,s0.flr,s0.ro⟩) := by
  simp only [leaveD,hd]
theorem Has.leaveRw {s0 S2 st2 : St} {H2 : List Ent} (h : Has N S s0 H) (hS : S2.bs = s0.bs) (h2 : Has N S2 st2 H2) (hk : ∀ (i : Nat) e,H2[i]? = some e -> ∃ e',H[i]? = some e' /\ ∀ k,e.K k -> e'.K k) : Has N S ⟨st2.bs.take s0.bs.length,s0.flr,s0.ro⟩ H2 := by
  have hL : s0.bs.length <= st2.bs.length := by have := h2.ex.len; rw [hS] at this; exact this
  have hSL := h.ex.len
  have hNL := h.hN
  refine ⟨⟨fun k hk' => ?_,?_,h.ex.flr,h.ex.ro⟩,h.hN,h.hro,fun i e hi => ?_,h2.dis⟩
  · show (st2.bs.take s0.bs.length)[k]? = _
    rw [List.getElem?_take,if_pos (by omega),h2.ex.low k hk',hS]; exact h.ex.low k hk'
  · show _ <= (st2.bs.take s0.bs.length).length
    rw [List.length_take]; omega
  · obtain ⟨e',he',hkk⟩ := hk i e hi
    have h3 := (h.ok i e' he').2
    refine ⟨e.loc (fun k hk' => ?_) (h2.ok i e hi).1,fun k hk' => ⟨(h3 k (hkk k hk')).1,?_⟩⟩
    · show (st2.bs.take s0.bs.length)[k]? = _
      rw [List.getElem?_take,if_pos (h3 k (hkk k hk')).2]
    · show k < (st2.bs.take s0.bs.length).length
      rw [List.length_take]
      have := (h3 k (hkk k hk')).2
      omega
theorem Has.leaveRw1 {s0 S2 st2 : St} {k : Nat} {b b' : Box} (h : Has N S s0 (.box k b :: H)) (hS : S2.bs = s0.bs) (h2 : Has N S2 st2 (.box k b' :: H)) : Has N S ⟨st2.bs.take s0.bs.length,s0.flr,s0.ro⟩ (.box k b' :: H) := by
  refine h.leaveRw hS h2 fun i e hi => ?_
  cases i with
  | zero => simp only [List.getElem?_cons_zero,Option.some.injEq] at hi; subst hi; exact ⟨_,rfl,fun k hk => hk⟩
  | succ i => exact ⟨e,hi,fun k hk => hk⟩
theorem Has.append5 {P : Pv} {j : Nat} {x y x' : D} {s : Nat} {es ys : List (List D)} {st' : St} (hH : Has N S st H) (hj : H[j]? = some (.lst x s es)) (hy : Rows st s y ys) {t1 t2 e : TypeId} {td : TypeDesc} {inf : TypeInfo} {z : List D}
    (h1 : P.und t1 = some (.slice e)) (h2 : P.und t2 = some td) (h3 : isIntT td = false) (h4 : P.info e = some inf) (h5 : zeroC P e = some z)
    (q1 : builtinD P .append [t1,t2] [x,y] st = some (x',st')) : ∀ k,x'.ref = k + 1 -> x.ref = k + 1 \/ S.bs.length <= k := by
  have hl := hH.ex.len
  have hrow := hy.row
  have hyl : ∀ e ∈ ys,e.length = s := fun e he => by
    obtain ⟨i,hi⟩ := List.getElem?_of_mem he
    exact hy.elen i e hi
  have hown := hH.own hj
  simp only [builtinD,appendD,h1,h2,h3,Bool.false_eq_true,if_false,h4,h5,hrow,Option.bind_some] at q1
  split at q1
  · cases q1
  · cases hown with
    | nul =>
      simp only at q1
      split at q1
      · cases q1; exact fun k hk => .inl hk
      · split at q1
        · cases q1
          exact fun k hk => .inr (by simp only [D.ref] at hk; omega)
        · cases q1
    | win k ver off es c hm hl hc he =>
      simp only [St.mem_of hm] at q1
      split at q1
      · cases q1
      · split at q1
        · cases q1; exact fun k hk => .inl hk
        · split at q1
          · cases q1
            exact fun n hn => .inl (by simp only [D.ref] at hn ⊢; exact hn)
          · cases q1
theorem EvO.happend5 {P : Pv} {ops : Array Oper} {rest : List Oper} {fr : Fr} {Q : Fr -> St -> Prop} {ty : TypeId} {pp : String} {a : Array Edge} {g : Option (Nat × Bool)} {dst : Nat} {j : Nat} {x y : D} {s : Nat} {es ys : List (List D)} {t1 t2 e : TypeId} {td : TypeDesc} {inf : TypeInfo} {z : List D} {xo yo : Operand} {fr' : D -> Fr} (hH : Has N S st H) (hg : wantD ops fr ⟨some dst, .call ⟨.builtin .append, #[xo,yo], #[t1,t2]⟩,ty,pp,a,g⟩ = some true)
    (hx : fr.ev xo = x) (hy : fr.ev yo = y) (hj : H[j]? = some (.lst x s es)) (hys : Rows st s y ys)
    (h1 : P.und t1 = some (.slice e)) (h2 : P.und t2 = some td) (h3 : isIntT td = false) (h4 : P.info e = some inf) (h5 : zeroC P e = some z) (h6 : inf.size = s) (h7 : z.length = s) (h8 : 0 < inf.bytes /\ inf.bytes <= 1024)
    (hp : ∀ x',fr.put dst x' = fr' x') (hb : es.length + ys.length <= 1073741824) (hw : S.flr <= N \/ refs ys.flatten = 0) (h0 : ∀ k,x.ref = k + 1 -> S.bs.length <= k)
    (h : ∀ x' st',(∀ k,x'.ref = k + 1 -> S.bs.length <= k) -> Has N S st' (H.set j (.lst x' s (es ++ ys))) -> EvO P ops rest (fr' x') st' Q) :
    EvO P ops (⟨some dst, .call ⟨.builtin .append, #[xo,yo], #[t1,t2]⟩,ty,pp,a,g⟩ :: rest) fr st Q := by
  obtain ⟨x',st',q1,q2,q3⟩ := hH.append hj hys h1 h2 h3 h4 h5 h6 h7 h8 hb hw
  have h5' := hH.append5 hj hys h1 h2 h3 h4 h5 q1
  refine EvO.go hg rfl (d := x') (st1 := st') ?_ (hp _) (h x' st' (fun k hk => ?_) q2)
  · simp only [opD,List.map_cons,List.map_nil,hx,hy]
    exact q1
  · rcases h5' k hk with h | h
    · exact h0 k h
    · exact h
end Go.V
namespace Go.V
variable {N : Nat} {S st : St} {H : List Ent}
theorem All2.at_ {α β : Type} {R : α -> β -> Prop} : ∀ {l : List α} {m : List β} {i : Nat} {b : β},All2 R l m -> m[i]? = some b -> ∃ a,l[i]? = some a /\ R a b
  | _,_,_,_, .nil,h => by simp at h
  | _,_,0,_, .cons a t,h => by simp only [List.getElem?_cons_zero,Option.some.injEq] at h; subst h; exact ⟨_,rfl,a⟩
  | _,_,i + 1,_, .cons a t,h => by simp only [List.getElem?_cons_succ] at h ⊢; exact t.at_ h
theorem All2.set {α β : Type} {R : α -> β -> Prop} {a : α} {b : β} (r : R a b) : ∀ {l : List α} {m : List β} (i : Nat),All2 R l m -> All2 R (l.set i a) (m.set i b)
  | _,_,_, .nil => .nil
  | _,_,0, .cons _ t => .cons r t
  | _,_,i + 1, .cons h t => .cons h (t.set r i)
theorem All2.setMany {R : D -> D -> Prop} : ∀ {xs ys : List D} {c d : List D} (o : Nat),All2 R xs ys -> All2 R c d -> All2 R (setMany c o xs) (setMany d o ys)
  | _,_,_,_,_, .nil,h => h
  | _,_,_,_,o, .cons r t,h => by simp only [Go.V.setMany]; exact t.setMany (o + 1) (h.set r o)
theorem All2.same {R : D -> D -> Prop} : ∀ {l : List D},(∀ d ∈ l,R d d) -> All2 R l l
  | [],_ => .nil
  | d :: l,h => .cons (h d (List.mem_cons_self ..)) (All2.same fun x hx => h x (List.mem_cons_of_mem _ hx))
theorem Has.drows {j : Nat} {x : D} {s : Nat} {bb : Bool} {ks : Nat -> Prop} {vs : List (List D)} (hH : Has N S st H) (hj : H[j]? = some (.deepG bb ks x s vs)) : ∃ es,Rows st s x es /\ es.length = vs.length := by
  obtain ⟨⟨es,h1,h2⟩,_⟩ := (hH.ok j _ hj).1
  exact ⟨es,h1.rows,h2.len⟩
theorem Has.dset {j k ver off len s : Nat} {bb : Bool} {ks : Nat -> Prop} {vs : List (List D)} {i o : Nat} {v cs : List D} (h : Has N S st H) (hj : H[j]? = some (.deepG bb ks (.win k ver off len s) s vs)) (hi : vs[i]? = some v) (hl : o + cs.length <= s) (hp : ∀ d ∈ cs,plainC d = true) (hw : S.flr <= N \/ refs cs = 0) (hp2 : (cs.all (fun d => !isSlD d) || bb) = true) :
    ∃ st',st.wr k ver (off + i * s + o) cs = some st' /\ Has N S st' (H.set j (.deepG bb ks (.win k ver off len s) s (vs.set i (setMany v o cs)))) := by
  obtain ⟨⟨es,he1,he2⟩,he3⟩ := (h.ok j _ hj).1
  have hK := (h.ok j _ hj).2
  obtain ⟨e,hei,hev⟩ := he2.at_ hi
  have hH1 : Has N S st [.lst (.win k ver off len s) s es] := by
    refine ⟨h.ex,h.hN,h.hro,fun i e hi => ?_,fun i i' a b hii ha hb k hka hkb => ?_⟩
    · cases i with
      | zero => simp only [List.getElem?_cons_zero,Option.some.injEq] at hi; subst hi; exact ⟨he1,fun k hk => hK k (.inl hk)⟩
      | succ i => simp at hi
    · cases i with
      | zero => cases i' with
        | zero => exact hii rfl
        | succ i' => simp at hb
      | succ i => simp at ha
  obtain ⟨st',q1,q2⟩ := hH1.setElem (j := 0) at0 hei hl hw
  refine ⟨st',q1,?_⟩
  have hown := q2.own (j := 0) at0
  have hch : (∀ n,n ≠ k -> st'.bs[n]? = st.bs[n]?) /\ st.bs.length = st'.bs.length /\ st'.flr = st.flr /\ st'.ro = st.ro := by
    unfold St.wr at q1
    split at q1
    · split at q1
      · cases q1
        exact ⟨fun n hn => by simp only; rw [List.getElem?_set_ne (fun e => hn e.symm)],by simp,rfl,rfl⟩
      · cases q1
    · cases q1
  obtain ⟨c1,c2,c3,c4⟩ := hch
  have hkk := hK k (.inl (by simp only [D.ref]))
  have hne : ∀ n,ks n -> n ≠ k := fun n hn e => he3 k (by simp only [D.ref]) (e ▸ hn)
  have hmove : ∀ n,ks n -> st'.bs[n]? = st.bs[n]? := fun n hn => c1 n (hne n hn)
  refine h.upd hj (fun n hn hnot => c1 n fun e => hnot (.inl (by simp only [D.ref]; omega))) (Nat.le_of_eq c2) c3 c4 ⟨⟨_,hown,?_⟩,he3⟩ (fun n hn => .inl hn) fun n hn => ?_
  · refine All2.set ?_ i (he2.mono fun a b => All2.mono fun c d => DeepG.move hmove)
    exact (All2.same fun d hd => .plain d (hp d hd) (by cases bb with | true => simp | false => simp only [Bool.or_false,List.all_eq_true] at hp2 ⊢; exact hp2 d hd)).setMany o (hev.mono fun c d => DeepG.move hmove)
  · rw [<- c2]; exact (hK n hn).2
variable {P : Pv} {ops : Array Oper} {rest : List Oper} {fr fr' : Fr} {Q : Fr -> St -> Prop} {ty : TypeId} {pp : String} {a : Array Edge} {g : Option (Nat × Bool)} {dst : Nat}
theorem EvO.dlen {t e : TypeId} {xo : Operand} {x : D} {s j : Nat} {bb : Bool} {ks : Nat -> Prop} {vs : List (List D)} (hH : Has N S st H) (hg : wantD ops fr ⟨some dst, .call ⟨.builtin .len, #[xo], #[t]⟩,ty,pp,a,g⟩ = some true) (hx : fr.ev xo = x) (hj : H[j]? = some (.deepG bb ks x s vs)) (ht : P.und t = some (.slice e)) (hp : fr.put dst (.int .i64 (vs.length : Nat)) = fr')
    (h : EvO P ops rest fr' st Q) : EvO P ops (⟨some dst, .call ⟨.builtin .len, #[xo], #[t]⟩,ty,pp,a,g⟩ :: rest) fr st Q := by
  obtain ⟨es,h1,h2⟩ := hH.drows hj
  exact EvO.rlen hg hx h1 ht (by rw [h2]; exact hp) h
theorem EvO.didx {t e : TypeId} {xo io : Operand} {x : D} {s i j : Nat} {kk : IntKind} {bb : Bool} {ks : Nat -> Prop} {vs : List (List D)} {fr' : D -> Fr} (hH : Has N S st H) (hg : wantD ops fr ⟨some dst, .indexAddr t xo io,ty,pp,a,g⟩ = some true) (hx : fr.ev xo = x) (hi : fr.ev io = .int kk (i : Nat)) (hj : H[j]? = some (.deepG bb ks x s vs)) (ht : P.und t = some (.slice e)) (hs : szOf P e = some s) (hr : i < vs.length) (hp : ∀ p,fr.put dst p = fr' p)
    (h : ∀ p,EPtr x s i 0 p -> EvO P ops rest (fr' p) st Q) : EvO P ops (⟨some dst, .indexAddr t xo io,ty,pp,a,g⟩ :: rest) fr st Q := by
  obtain ⟨⟨es,he1,he2⟩,he3⟩ := (hH.ok j _ hj).1
  have hlen := he2.len
  cases he1 with
  | nul => simp at hlen; omega
  | win k ver off es c hm hl hc he =>
    refine EvO.go hg rfl (d := .ptr k ver (off + i * s)) (st1 := st) ?_ (hp _) (h _ ⟨k,ver,off,_,rfl,rfl⟩)
    simp only [opD,hx,hi,indexAddrD,ht,hs,Option.bind_some,St.mem_of hm,Option.isSome_some]
    rw [if_pos ⟨trivial,by omega,by omega,trivial⟩]; rfl
theorem EvO.dstore {t : TypeId} {ao vo : Operand} {x y v : D} {s i o j : Nat} {bb : Bool} {ks : Nat -> Prop} {vs : List (List D)} {r cs : List D} (hH : Has N S st H) (hg : wantD ops fr ⟨none, .store t ao vo,ty,pp,a,g⟩ = some true) (ha : fr.ev ao = y) (hv : fr.ev vo = v) (hR : EPtr x s i o y) (hcs : v.cells? = some cs) (hs : szOf P t = some cs.length) (hj : H[j]? = some (.deepG bb ks x s vs)) (hr : vs[i]? = some r) (hl : o + cs.length <= s) (hq : ∀ d ∈ cs,plainC d = true) (hw : S.flr <= N \/ refs cs = 0)
    (h : ∀ st',Has N S st' (H.set j (.deepG bb ks x s (vs.set i (setMany r o cs)))) -> EvO P ops rest fr st' Q) (hq2 : (cs.all (fun d => !isSlD d) || bb) = true := by rfl) : EvO P ops (⟨none, .store t ao vo,ty,pp,a,g⟩ :: rest) fr st Q := by
  obtain ⟨k,ver,off,len,rfl,rfl⟩ := hR
  obtain ⟨st',h1,h2⟩ := hH.dset hj hr hl hq hw hq2
  refine EvO.N hg rfl (d := .tup []) (st1 := st') ?_ (h _ h2)
  simp only [opD,ha,hv,storeD,hcs,hs,if_pos trivial,h1]; rfl
theorem EvC.cutW {dy : Dy} {i : Nat} {l : List Oper} {d n loc tmp st} {Q : Out -> Fr -> St -> Prop} (ws : List Nat) (F : (Nat -> D) -> Prop)
    (h1 : EvO P l.toArray l ⟨n,loc, []⟩ st fun fr' st' => ∃ f tmp,fr' = ⟨n,setW loc ws f,tmp⟩ /\ st' = st /\ F f) (h2 : ∀ f tmp,F f -> Q .next ⟨n,setW loc ws f,tmp⟩ st) (h0 : lookDy i dy = [] := by rfl) : EvC P dy (.region i l.toArray d) ⟨n,loc,tmp⟩ st Q := by
  refine EvC.reg ?_ h0
  unfold EvO at h1 ⊢
  obtain ⟨fr',st',h3,f,tmp',rfl,rfl,h4⟩ := h1
  exact ⟨_,_,h3,h2 _ _ h4⟩
theorem leafW {n : Nat} {L loc : List D} {tmp0 : List (Nat × D)} {ws : List Nat} {F : (Nat -> D) -> Prop} {st : St} (h : L = setW loc ws (fun k => nth .junk L k)) (h2 : F (fun k => nth .junk L k)) : ∃ (f : Nat -> D) (tmp : List (Nat × D)),(⟨n,L,tmp0⟩ : Fr) = ⟨n,setW loc ws f,tmp⟩ /\ st = st /\ F f := ⟨_,tmp0,by rw [<- h],rfl,h2⟩
theorem EvO.minZ {t1 t2 : TypeId} {xo yo : Operand} {x y z : Int} (hg : wantD ops fr ⟨some dst, .call ⟨.builtin .min, #[xo,yo], #[t1,t2]⟩,ty,pp,a,g⟩ = some true) (hx : fr.ev xo = .int .i64 x) (hy : fr.ev yo = .int .i64 y) (hz : min x y = z) (hp : fr.put dst (.int .i64 z) = fr') (h : EvO P ops rest fr' st Q) : EvO P ops (⟨some dst, .call ⟨.builtin .min, #[xo,yo], #[t1,t2]⟩,ty,pp,a,g⟩ :: rest) fr st Q :=
  EvO.minS (t1 := t1) (t2 := t2) hg hx hy (by rw [hz]; exact hp) h
theorem Has.leaveRwL {N : Nat} {S s0 S2 st2 : St} {H : List Ent} {x : D} {s : Nat} {es es' : List (List D)} (h : Has N S s0 (.lst x s es :: H)) (hS : S2.bs = s0.bs) (h2 : Has N S2 st2 (.lst x s es' :: H)) : Has N S ⟨st2.bs.take s0.bs.length,s0.flr,s0.ro⟩ (.lst x s es' :: H) := by
  refine h.leaveRw hS h2 fun i e hi => ?_
  cases i with
  | zero => simp only [List.getElem?_cons_zero,Option.some.injEq] at hi; subst hi; exact ⟨_,rfl,fun k hk => hk⟩
  | succ i => exact ⟨e,hi,fun k hk => hk⟩
theorem Has.leaveRwD {N : Nat} {S s0 S2 st2 : St} {H : List Ent} {k : Nat} {b b' : Box} {bb : Bool} {ks : Nat -> Prop} {x : D} {s : Nat} {vs vs' : List (List D)} (h : Has N S s0 (.box k b :: .deepG bb ks x s vs :: H)) (hS : S2.bs = s0.bs) (h2 : Has N S2 st2 (.box k b' :: .deepG bb ks x s vs' :: H)) : Has N S ⟨st2.bs.take s0.bs.length,s0.flr,s0.ro⟩ (.box k b' :: .deepG bb ks x s vs' :: H) := by
  refine h.leaveRw hS h2 fun i e hi => ?_
  match i with
  | 0 => simp only [List.getElem?_cons_zero,Option.some.injEq] at hi; subst hi; exact ⟨_,rfl,fun k hk => hk⟩
  | 1 => simp only [List.getElem?_cons_succ,List.getElem?_cons_zero,Option.some.injEq] at hi; subst hi; exact ⟨_,rfl,fun k hk => hk⟩
  | i + 2 => exact ⟨e,hi,fun k hk => hk⟩
theorem Has.rot5 {N : Nat} {S st : St} {H : List Ent} {a b c d e : Ent} (h : Has N S st (a :: b :: c :: d :: e :: H)) : Has N S st (b :: c :: d :: e :: a :: H) := by
  refine h.sub (fun i => if i = 4 then 0 else if i < 4 then i + 1 else i) (fun i j hij => ?_) (fun i x hi => ?_)
  · try simp only at hij
    split at hij <;> split at hij <;> (try split at hij) <;> (try split at hij) <;> omega
  · match i,hi with
    | 0,hi => exact hi
    | 1,hi => exact hi
    | 2,hi => exact hi
    | 3,hi => exact hi
    | 4,hi => exact hi
    | i + 5,hi =>
      have h1 : ¬ (i + 5 = 4) := by omega
      have h2 : ¬ (i + 5 < 4) := by omega
      simp only [if_neg h1,if_neg h2]
      exact hi
theorem Has.resCellTT {fr : Fr} {a k ver off j u u2 : Nat} {t : TypeId} {ar : Bool} {c : List D} {d e e2 : D} (hH : Has N S st H) (ha : fr.get a = .ptr k ver off) (hj : H[j]? = some (.box k (.mem ver ar c))) (hd : takeD P t (c.drop off) = some d) (he : fr.get u = e) (he2 : fr.get u2 = e2) : resD P fr st [.cell a t, .tmp u, .tmp u2] = some [d,e,e2] := by
  simp only [resD,loadD,ha,St.mem_of (hH.at hj),Option.bind_some,hd,Option.map_some,he,he2]
end Go.V
namespace Go.Proofs.Ytnleclohocdkaaa
open Go.V Go
def ixF_Qd (fr : Go.V.Fr) (k : Nat) : Go.V.D := Go.V.nth .junk fr.loc k
theorem plain_ev {s0 : St} {n : Nod} (hn : n.ok) : Ev pv 113 [.agg (nodC n)] s0 (.bool (plainN n)) s0 := by
 refine Ev.mk1 rfl fi113 rfl rfl rfl ?_;dsimp only [u3,u4,List.length,Nat.reduceSub,Nat.reduceAdd,w1,w2];obtain ⟨hSb,hF,hH⟩ := ri s0;generalize enterSt .ro s0 = S at *;have hrd := hn.1.arg s0.bs.length S;have hrl := hn.2.1;refine qq ?_;refine qj fun K hK => ?_;refine qb hH fun k1 st hk1 hH => ?_;dsimp only [u2,u1,u3,u4,setMany,u5,u6,D.cells,Nat.reduceAdd,nodC] at hH;refine qm ?_;refine qe hK ?_;refine qq ?_;refine qj fun K hK => ?_;refine qp (o := 0) ?_;refine ql hH at0 ?_;refine qg ?_;refine qm ?_;refine qe hK ?_;refine qq ?_;refine EvC.cutL 2 (.bool (((n.op == 2) || ((n.rs.length : Nat) : Int) == 0) && ((n.op == 5) || ((n.mn == 0) && (n.mx == 0) && !n.lz)) && ((n.op == 6) || (n.cap == 0)))) [] ?_ (fun ff tmp => ?_)
 ·refine qp (o := 0) ?_;refine ql hH at0 ?_;refine qg ?_;refine qm ?_;refine EvO.two 10 rfl (fun hg3 => ?_) (fun hg3 => ?_)
  ·refine qs ?_ (hg := wn hg3);refine qs ?_ (hg := wn hg3);refine qs ?_ (hg := wn hg3);refine qs ?_ (hg := wn hg3);refine qt hg3 ?_;refine qm ?_;refine qm ?_;refine qm ?_;refine EvO.two 18 rfl (fun hg11 => ?_) (fun hg11 => ?_)
   ·refine qs ?_ (hg := wn hg11);refine qs ?_ (hg := wn hg11);refine qs ?_ (hg := wn hg11);refine qs ?_ (hg := wn hg11);refine qs ?_;refine qs ?_;refine qs ?_;refine qs ?_ (hg := wn hg11);refine qs ?_ (hg := wn hg11);refine qs ?_;refine qs ?_;refine qs ?_;refine qs ?_ (hg := wn hg11);refine qt hg11 ?_;refine qg ?_;refine qm ?_;refine qp (o := 0) ?_;refine ql hH at0 ?_;refine qg ?_;refine qm ?_;refine EvO.two 38 rfl (fun hg31 => ?_) (fun hg31 => ?_)
    ·refine qs ?_ (hg := wn hg31);refine qs ?_ (hg := wn hg31);refine qs ?_ (hg := wn hg31);refine qt hg31 ?_;refine qg ?_;refine qm ?_;refine EvO.nil (leafL ?_);dsimp only [setW,List.foldl,nth,u2,u1];dsimp only [Fr.putO,Fr.put,Fr.clean,Fr.ev,Fr.get,nth,V.look,u1,u2,v1,v2,v3,v4,v5,v6,v7,List.length,u3,u4,Nat.reduceSub,Nat.reduceAdd,List.map]
     all_goals (simp [hg3,hg11,hg31]; done)
    ·refine qp (o := 5) ?_ (hg := wi hg31);refine ql hH at0 ?_ (hg := wi hg31);refine qg ?_ (hg := wi hg31);refine qu hg31 ?_;refine qg ?_;refine qm ?_;refine EvO.nil (leafL ?_);dsimp only [setW,List.foldl,nth,u2,u1];dsimp only [Fr.putO,Fr.put,Fr.clean,Fr.ev,Fr.get,nth,V.look,u1,u2,v1,v2,v3,v4,v5,v6,v7,List.length,u3,u4,Nat.reduceSub,Nat.reduceAdd,List.map]
     all_goals (simp [hg3,hg11,hg31]; done)
   ·refine qp (o := 2) ?_ (hg := wi hg11);refine ql hH at0 ?_ (hg := wi hg11);refine qg ?_ (hg := wi hg11);refine qm ?_ (hg := wi hg11);refine EvO.two 22 rfl (fun hg15 => ?_) (fun hg15 => ?_)
    ·refine qp (o := 3) ?_ (hg := wi hg15);refine ql hH at0 ?_ (hg := wi hg15);refine qg ?_ (hg := wi hg15);refine EvO.pickT (wantD_is rfl rfl rfl hg11) rfl hg15 (put_T rfl _) ?_;refine qm ?_ (hg := wi hg11);refine EvO.two 27 rfl (fun hg20 => ?_) (fun hg20 => ?_)
     ·refine qp (o := 4) ?_ (hg := wi hg20);refine ql hH at0 ?_ (hg := wi hg20);refine qg ?_ (hg := wi hg20);refine EvO.pickT (wantD_is rfl rfl rfl hg11) rfl hg20 (put_T rfl _) ?_;refine qu hg11 ?_;refine qg ?_;refine qm ?_;refine EvO.two 34 rfl (fun hg27 => ?_) (fun hg27 => ?_)
      ·refine qp (o := 0) ?_ (hg := wi hg27);refine ql hH at0 ?_ (hg := wi hg27);refine qg ?_ (hg := wi hg27);refine qm ?_ (hg := wi hg27);refine EvO.two 38 rfl (fun hg31 => ?_) (fun hg31 => ?_)
       ·refine qs ?_ (hg := wn hg31);refine qs ?_ (hg := wn hg31);refine qs ?_ (hg := wn hg31);refine EvO.pickT (wantD_is rfl rfl rfl hg27) rfl hg31 (put_T rfl _) ?_;refine qt hg27 ?_;refine qm ?_;refine EvO.nil (leafL ?_);dsimp only [setW,List.foldl,nth,u2,u1];dsimp only [Fr.putO,Fr.put,Fr.clean,Fr.ev,Fr.get,nth,V.look,u1,u2,v1,v2,v3,v4,v5,v6,v7,List.length,u3,u4,Nat.reduceSub,Nat.reduceAdd,List.map]
        all_goals (simp [hg3,hg11,hg15,hg20,hg27,hg31]; done)
       ·refine qp (o := 5) ?_ (hg := wi hg31);refine ql hH at0 ?_ (hg := wi hg31);refine qg ?_ (hg := wi hg31);refine EvO.pickF (wantD_is rfl rfl rfl hg27) rfl hg31 (put_T rfl _) ?_;refine qt hg27 ?_;refine qm ?_;refine EvO.nil (leafL ?_);dsimp only [setW,List.foldl,nth,u2,u1];dsimp only [Fr.putO,Fr.put,Fr.clean,Fr.ev,Fr.get,nth,V.look,u1,u2,v1,v2,v3,v4,v5,v6,v7,List.length,u3,u4,Nat.reduceSub,Nat.reduceAdd,List.map]
        all_goals (simp [hg3,hg11,hg15,hg20,hg27,hg31]; done)
      ·refine qs ?_ (hg := wn hg27);refine qs ?_ (hg := wn hg27);refine qs ?_ (hg := wn hg27);refine qs ?_ (hg := wn hg27);refine qs ?_;refine qs ?_;refine qs ?_;refine qs ?_ (hg := wn hg27);refine qu hg27 ?_;refine qm ?_;refine EvO.nil (leafL ?_);dsimp only [setW,List.foldl,nth,u2,u1];dsimp only [Fr.putO,Fr.put,Fr.clean,Fr.ev,Fr.get,nth,V.look,u1,u2,v1,v2,v3,v4,v5,v6,v7,List.length,u3,u4,Nat.reduceSub,Nat.reduceAdd,List.map]
       all_goals (simp [hg3,hg11,hg15,hg20,hg27]; done)
     ·refine qs ?_ (hg := wn hg20);refine qs ?_ (hg := wn hg20);refine qs ?_ (hg := wn hg20);refine EvO.pickF (wantD_is rfl rfl rfl hg11) rfl hg20 (put_T rfl _) ?_;refine qu hg11 ?_;refine qg ?_;refine qm ?_;refine qs ?_;refine qs ?_;refine qs ?_;refine qs ?_;refine qs ?_;refine qs ?_;refine qs ?_;refine qs ?_;refine qg ?_;refine qm ?_;refine EvO.nil (leafL ?_);dsimp only [setW,List.foldl,nth,u2,u1];dsimp only [Fr.putO,Fr.put,Fr.clean,Fr.ev,Fr.get,nth,V.look,u1,u2,v1,v2,v3,v4,v5,v6,v7,List.length,u3,u4,Nat.reduceSub,Nat.reduceAdd,List.map]
      all_goals (simp [hg3,hg11,hg15,hg20]; done)
    ·refine qs ?_ (hg := wn hg15);refine qs ?_ (hg := wn hg15);refine qs ?_ (hg := wn hg15);refine EvO.pickF (wantD_is rfl rfl rfl hg11) rfl hg15 (put_T rfl _) ?_;refine qm ?_ (hg := wi hg11);refine qs ?_;refine qs ?_;refine qs ?_;refine qg ?_ (hg := wi hg11);refine qu hg11 ?_;refine qg ?_;refine qm ?_;refine qs ?_;refine qs ?_;refine qs ?_;refine qs ?_;refine qs ?_;refine qs ?_;refine qs ?_;refine qs ?_;refine qg ?_;refine qm ?_;refine EvO.nil (leafL ?_);dsimp only [setW,List.foldl,nth,u2,u1];dsimp only [Fr.putO,Fr.put,Fr.clean,Fr.ev,Fr.get,nth,V.look,u1,u2,v1,v2,v3,v4,v5,v6,v7,List.length,u3,u4,Nat.reduceSub,Nat.reduceAdd,List.map]
     all_goals (simp [hg3,hg11,hg15]; done)
  ·refine qp (o := 1) ?_ (hg := wi hg3);refine ql hH at0 ?_ (hg := wi hg3);refine qn ?_ (hg := wi hg3);simp only [List.length_map];refine qg ?_ (hg := wi hg3);refine qu hg3 ?_;refine qm ?_;refine EvO.two 16 rfl (fun hg9 => ?_) (fun hg9 => ?_)
   ·refine qm ?_ (hg := wi hg9);refine qm ?_ (hg := wi hg9);refine EvO.two 18 rfl (fun hg11 => ?_) (fun hg11 => ?_)
    ·refine qs ?_ (hg := wn hg11);refine qs ?_ (hg := wn hg11);refine qs ?_ (hg := wn hg11);refine qs ?_ (hg := wn hg11);refine qs ?_;refine qs ?_;refine qs ?_;refine qs ?_ (hg := wn hg11);refine qs ?_ (hg := wn hg11);refine qs ?_;refine qs ?_;refine qs ?_;refine qs ?_ (hg := wn hg11);refine EvO.pickT (wantD_is rfl rfl rfl hg9) rfl hg11 (put_T rfl _) ?_;refine qt hg9 ?_;refine qm ?_;refine qp (o := 0) ?_;refine ql hH at0 ?_;refine qg ?_;refine qm ?_;refine EvO.two 38 rfl (fun hg31 => ?_) (fun hg31 => ?_)
     ·refine qs ?_ (hg := wn hg31);refine qs ?_ (hg := wn hg31);refine qs ?_ (hg := wn hg31);refine qt hg31 ?_;refine qg ?_;refine qm ?_;refine EvO.nil (leafL ?_);dsimp only [setW,List.foldl,nth,u2,u1];dsimp only [Fr.putO,Fr.put,Fr.clean,Fr.ev,Fr.get,nth,V.look,u1,u2,v1,v2,v3,v4,v5,v6,v7,List.length,u3,u4,Nat.reduceSub,Nat.reduceAdd,List.map]
      all_goals (simp [hg3,hg9,hg11,hg31]; done)
     ·refine qp (o := 5) ?_ (hg := wi hg31);refine ql hH at0 ?_ (hg := wi hg31);refine qg ?_ (hg := wi hg31);refine qu hg31 ?_;refine qg ?_;refine qm ?_;refine EvO.nil (leafL ?_);dsimp only [setW,List.foldl,nth,u2,u1];dsimp only [Fr.putO,Fr.put,Fr.clean,Fr.ev,Fr.get,nth,V.look,u1,u2,v1,v2,v3,v4,v5,v6,v7,List.length,u3,u4,Nat.reduceSub,Nat.reduceAdd,List.map]
      all_goals (simp [hg3,hg9,hg11,hg31]; done)
    ·refine qp (o := 2) ?_ (hg := wi hg11);refine ql hH at0 ?_ (hg := wi hg11);refine qg ?_ (hg := wi hg11);refine qm ?_ (hg := wi hg11);refine EvO.two 22 rfl (fun hg15 => ?_) (fun hg15 => ?_)
     ·refine qp (o := 3) ?_ (hg := wi hg15);refine ql hH at0 ?_ (hg := wi hg15);refine qg ?_ (hg := wi hg15);refine EvO.pickT (wantD_is rfl rfl rfl hg11) rfl hg15 (put_T rfl _) ?_;refine qm ?_ (hg := wi hg11);refine EvO.two 27 rfl (fun hg20 => ?_) (fun hg20 => ?_)
      ·refine qp (o := 4) ?_ (hg := wi hg20);refine ql hH at0 ?_ (hg := wi hg20);refine qg ?_ (hg := wi hg20);refine EvO.pickT (wantD_is rfl rfl rfl hg11) rfl hg20 (put_T rfl _) ?_;refine EvO.pickF (wantD_is rfl rfl rfl hg9) rfl hg11 (put_T rfl _) ?_;refine qt hg9 ?_;refine qm ?_;refine EvO.two 34 rfl (fun hg27 => ?_) (fun hg27 => ?_)
       ·refine qp (o := 0) ?_ (hg := wi hg27);refine ql hH at0 ?_ (hg := wi hg27);refine qg ?_ (hg := wi hg27);refine qm ?_ (hg := wi hg27);refine EvO.two 38 rfl (fun hg31 => ?_) (fun hg31 => ?_)
        ·refine qs ?_ (hg := wn hg31);refine qs ?_ (hg := wn hg31);refine qs ?_ (hg := wn hg31);refine EvO.pickT (wantD_is rfl rfl rfl hg27) rfl hg31 (put_T rfl _) ?_;refine qt hg27 ?_;refine qm ?_;refine EvO.nil (leafL ?_);dsimp only [setW,List.foldl,nth,u2,u1];dsimp only [Fr.putO,Fr.put,Fr.clean,Fr.ev,Fr.get,nth,V.look,u1,u2,v1,v2,v3,v4,v5,v6,v7,List.length,u3,u4,Nat.reduceSub,Nat.reduceAdd,List.map]
         all_goals (simp [hg3,hg9,hg11,hg15,hg20,hg27,hg31]; done)
        ·refine qp (o := 5) ?_ (hg := wi hg31);refine ql hH at0 ?_ (hg := wi hg31);refine qg ?_ (hg := wi hg31);refine EvO.pickF (wantD_is rfl rfl rfl hg27) rfl hg31 (put_T rfl _) ?_;refine qt hg27 ?_;refine qm ?_;refine EvO.nil (leafL ?_);dsimp only [setW,List.foldl,nth,u2,u1];dsimp only [Fr.putO,Fr.put,Fr.clean,Fr.ev,Fr.get,nth,V.look,u1,u2,v1,v2,v3,v4,v5,v6,v7,List.length,u3,u4,Nat.reduceSub,Nat.reduceAdd,List.map]
         all_goals (simp [hg3,hg9,hg11,hg15,hg20,hg27,hg31]; done)
       ·refine qs ?_ (hg := wn hg27);refine qs ?_ (hg := wn hg27);refine qs ?_ (hg := wn hg27);refine qs ?_ (hg := wn hg27);refine qs ?_;refine qs ?_;refine qs ?_;refine qs ?_ (hg := wn hg27);refine qu hg27 ?_;refine qm ?_;refine EvO.nil (leafL ?_);dsimp only [setW,List.foldl,nth,u2,u1];dsimp only [Fr.putO,Fr.put,Fr.clean,Fr.ev,Fr.get,nth,V.look,u1,u2,v1,v2,v3,v4,v5,v6,v7,List.length,u3,u4,Nat.reduceSub,Nat.reduceAdd,List.map]
        all_goals (simp [hg3,hg9,hg11,hg15,hg20,hg27]; done)
      ·refine qs ?_ (hg := wn hg20);refine qs ?_ (hg := wn hg20);refine qs ?_ (hg := wn hg20);refine EvO.pickF (wantD_is rfl rfl rfl hg11) rfl hg20 (put_T rfl _) ?_;refine EvO.pickF (wantD_is rfl rfl rfl hg9) rfl hg11 (put_T rfl _) ?_;refine qt hg9 ?_;refine qm ?_;refine qs ?_;refine qs ?_;refine qs ?_;refine qs ?_;refine qs ?_;refine qs ?_;refine qs ?_;refine qs ?_;refine qg ?_;refine qm ?_;refine EvO.nil (leafL ?_);dsimp only [setW,List.foldl,nth,u2,u1];dsimp only [Fr.putO,Fr.put,Fr.clean,Fr.ev,Fr.get,nth,V.look,u1,u2,v1,v2,v3,v4,v5,v6,v7,List.length,u3,u4,Nat.reduceSub,Nat.reduceAdd,List.map]
       all_goals (simp [hg3,hg9,hg11,hg15,hg20]; done)
     ·refine qs ?_ (hg := wn hg15);refine qs ?_ (hg := wn hg15);refine qs ?_ (hg := wn hg15);refine EvO.pickF (wantD_is rfl rfl rfl hg11) rfl hg15 (put_T rfl _) ?_;refine qm ?_ (hg := wi hg11);refine qs ?_;refine qs ?_;refine qs ?_;refine qg ?_ (hg := wi hg11);refine EvO.pickF (wantD_is rfl rfl rfl hg9) rfl hg11 (put_T rfl _) ?_;refine qt hg9 ?_;refine qm ?_;refine qs ?_;refine qs ?_;refine qs ?_;refine qs ?_;refine qs ?_;refine qs ?_;refine qs ?_;refine qs ?_;refine qg ?_;refine qm ?_;refine EvO.nil (leafL ?_);dsimp only [setW,List.foldl,nth,u2,u1];dsimp only [Fr.putO,Fr.put,Fr.clean,Fr.ev,Fr.get,nth,V.look,u1,u2,v1,v2,v3,v4,v5,v6,v7,List.length,u3,u4,Nat.reduceSub,Nat.reduceAdd,List.map]
      all_goals (simp [hg3,hg9,hg11,hg15]; done)
   ·refine qs ?_ (hg := wn hg9);refine qs ?_ (hg := wn hg9);refine qs ?_;refine qs ?_;refine qs ?_;refine qs ?_;refine qs ?_;refine qs ?_;refine qs ?_;refine qs ?_;refine qs ?_;refine qs ?_;refine qs ?_;refine qs ?_;refine qs ?_;refine qs ?_ (hg := wn hg9);refine qu hg9 ?_;refine qm ?_;refine qs ?_;refine qs ?_;refine qs ?_;refine qs ?_;refine qs ?_;refine qs ?_;refine qs ?_;refine qs ?_;refine qg ?_;refine qm ?_;refine EvO.nil (leafL ?_);dsimp only [setW,List.foldl,nth,u2,u1];dsimp only [Fr.putO,Fr.put,Fr.clean,Fr.ev,Fr.get,nth,V.look,u1,u2,v1,v2,v3,v4,v5,v6,v7,List.length,u3,u4,Nat.reduceSub,Nat.reduceAdd,List.map]
    all_goals (simp [hg3,hg9]; done)
 dsimp only [setW,List.foldl,nth,u2,u1];refine EvC.ret ⟨rx,_,rfl,rl hSb hH (rfl)⟩
theorem shaped2_ev {s0 : St} {n : Nod} (hn : n.ok) {g : Nat} (hg : g <= 1048576) : Ev pv 100 [.agg (nodC n), .int .i64 (g : Nat)] s0 (.tup [.int .i64 (shapeN n (g : Nat)).1, .bool (shapeN n (g : Nat)).2]) s0 := by
 refine Ev.mk1 rfl fi100 rfl rfl rfl ?_;dsimp only [u3,u4,List.length,Nat.reduceSub,Nat.reduceAdd,w1,w2];obtain ⟨hSb,hF,hH⟩ := ri s0;generalize enterSt .ro s0 = S at *;have hrd := hn.1.arg s0.bs.length S;have hrl := hn.2.1;refine qq ?_;refine qj fun K hK => ?_;refine qb hH fun k2 st hk2 hH => ?_;dsimp only [u2,u1,u3,u4,setMany,u5,u6,D.cells,Nat.reduceAdd,nodC] at hH;refine qm ?_;refine qm ?_;refine qe hK ?_;refine qq ?_;refine qq ?_;refine qj fun K hK => ?_;refine EvO.hloadS (m := 7) hH rfl (ev rfl) (by exact at0) (by dsimp only [List.drop_succ_cons,List.drop_zero,List.take_succ_cons,List.take_zero,nodC] <;> rfl) rfl rfl (by dsimp only [Fr.put,u1,u2] <;> rfl) ?_;refine qv (plain_ev hn) ?_;refine qg ?_;refine qe hK ?_;unfold shapeN
 cases hp : plainN n with
 | false =>
  rw [if_pos rfl];refine qB ?_;refine qq ?_;refine qj fun K hK => ?_;refine qm ?_;refine qm ?_;refine qe hK ?_;refine EvC.ret ⟨rx,_,rfl,rl hSb hH (rfl)⟩
 | true =>
  rw [if_neg (by simp)];refine qC ?_;refine EvC.skip ?_;refine qq ?_;refine qq ?_;refine qj fun K hK => ?_;refine qp (o := 0) ?_;refine ql hH at0 ?_;refine qe hK ?_;refine EvC.block ?_;refine qq ?_;refine qq ?_;refine qj fun K hK => ?_;refine qg ?_;refine qm ?_;refine qe hK ?_
  by_cases q1 : n.op = 1
  ·rw [if_pos (.inl q1)];refine qD rfl (by simp [q1]) ?_;refine EvC.skip ?_;refine qD rfl (by simp [q1]) ?_;refine qq ?_;refine qj fun K hK => ?_;refine qp (o := 6) ?_;refine ql hH at0 ?_;refine qg ?_;refine qm ?_;refine qm ?_;refine qe hK ?_;refine EvC.ret ⟨rx,_,rfl,rl hSb hH (rfl)⟩
  refine qE rfl (by simp [q1]) ?_;refine qq ?_;refine qj fun K hK => ?_;refine qg ?_;refine qm ?_;refine qe hK ?_
  by_cases q7 : n.op = 7
  ·rw [if_pos (.inr (.inl q7))];refine qD rfl (by simp [q7]) ?_;refine EvC.skip ?_;refine qD rfl (by simp [q7]) ?_;refine qq ?_;refine qj fun K hK => ?_;refine qp (o := 6) ?_;refine ql hH at0 ?_;refine qg ?_;refine qm ?_;refine qm ?_;refine qe hK ?_;refine EvC.ret ⟨rx,_,rfl,rl hSb hH (rfl)⟩
  refine qE rfl (by simp [q7]) ?_;refine qj fun K hK => ?_;refine qg ?_;refine qm ?_;refine qe hK ?_
  by_cases q8 : n.op = 8
  ·rw [if_pos (.inr (.inr q8))];refine qD rfl (by simp [q8]) ?_;refine qq ?_;refine qj fun K hK => ?_;refine qp (o := 6) ?_;refine ql hH at0 ?_;refine qg ?_;refine qm ?_;refine qm ?_;refine qe hK ?_;refine EvC.ret ⟨rx,_,rfl,rl hSb hH (rfl)⟩
  refine qE rfl (by simp [q8]) ?_;rw [if_neg (by omega)];refine qq ?_;refine qj fun K hK => ?_;refine qg ?_;refine qm ?_;refine qe hK ?_;refine EvC.cond (by rfl) (fun q2 => ?_) (fun q2 => ?_) <;> try simp only [beq_iff_eq,beq_eq_false_iff_ne,ne_eq] at q2
  ·rw [if_pos q2];refine qq ?_;refine EvC.cutW [4,5] (fun ff => ff 4 = .int .i64 0 /\ ff 5 = .bool ((n.kids == 0) && rightS n.rs)) ?_ (fun ff tmp hff => ?_)
   ·refine qp (o := 6) ?_;refine ql hH at0 ?_;refine qg ?_;refine qm ?_;refine EvO.two 23 rfl (fun hg3 => ?_) (fun hg3 => ?_)
    ·refine qp (o := 1) ?_ (hg := wi hg3);refine ql hH at0 ?_ (hg := wi hg3);refine qv (right_ev (hrd.rows hH) hrl) ?_ (hg := wi hg3);refine qt hg3 ?_;refine qm ?_;refine qm ?_;refine EvO.nil (leafW ?_ ?_)
     ·dsimp only [setW,List.foldl,nth,u2,u1]
     ·dsimp only [nth];dsimp only [Fr.putO,Fr.put,Fr.clean,Fr.ev,Fr.get,nth,V.look,u1,u2,v1,v2,v3,v4,v5,v6,v7,List.length,u3,u4,Nat.reduceSub,Nat.reduceAdd,List.map];refine ⟨?_,?_⟩ <;> (first | rfl | (simp [hg3]; done) | (simp_all; done) | (simp [hg3]; omega) | (simp_all; omega))
    ·refine qs ?_ (hg := wn hg3);refine qs ?_ (hg := wn hg3);refine qs ?_ (hg := wn hg3);refine qu hg3 ?_;refine qm ?_;refine qm ?_;refine EvO.nil (leafW ?_ ?_)
     ·dsimp only [setW,List.foldl,nth,u2,u1]
     ·dsimp only [nth];dsimp only [Fr.putO,Fr.put,Fr.clean,Fr.ev,Fr.get,nth,V.look,u1,u2,v1,v2,v3,v4,v5,v6,v7,List.length,u3,u4,Nat.reduceSub,Nat.reduceAdd,List.map];refine ⟨?_,?_⟩ <;> (first | rfl | (simp [hg3]; done) | (simp_all; done) | (simp [hg3]; omega) | (simp_all; omega))
   dsimp only [setW,List.foldl,nth,u2,u1];obtain ⟨hff4,hff5⟩ := hff;rw [hff4,hff5];refine EvC.ret ⟨rx,_,rfl,rl hSb hH (rfl)⟩
  rw [if_neg q2];refine qq ?_;refine qq ?_;refine qj fun K hK => ?_;refine qg ?_;refine qm ?_;refine qe hK ?_
  by_cases q3 : n.op = 3
  ·rw [if_pos (.inl q3)];refine qD rfl (by simp [q3]) ?_;refine EvC.skip ?_;refine qD rfl (by simp [q3]) ?_;refine qq ?_;refine qj fun K hK => ?_;refine qp (o := 6) ?_;refine ql hH at0 ?_;refine qp (o := 6) ?_;refine ql hH at0 ?_;refine qg ?_;refine qm ?_;refine qm ?_;refine qe hK ?_;refine EvC.ret ⟨rx,_,rfl,rl hSb hH (rfl)⟩
  refine qE rfl (by simp [q3]) ?_;refine qj fun K hK => ?_;refine qg ?_;refine qm ?_;refine qe hK ?_
  by_cases q4 : n.op = 4
  ·rw [if_pos (.inr q4)];refine qD rfl (by simp [q4]) ?_;refine qq ?_;refine qj fun K hK => ?_;refine qp (o := 6) ?_;refine ql hH at0 ?_;refine qp (o := 6) ?_;refine ql hH at0 ?_;refine qg ?_;refine qm ?_;refine qm ?_;refine qe hK ?_;refine EvC.ret ⟨rx,_,rfl,rl hSb hH (rfl)⟩
  rw [if_neg (by omega)];refine qE rfl (by simp [q4]) ?_;refine qq ?_;refine qj fun K hK => ?_;refine qg ?_;refine qm ?_;refine qe hK ?_;refine EvC.cond (by rfl) (fun q5 => ?_) (fun q5 => ?_) <;> try simp only [beq_iff_eq,beq_eq_false_iff_ne,ne_eq] at q5
  ·rw [if_pos q5];refine qq ?_;refine EvC.cutW [4,5] (fun ff => ff 4 = .int .i64 1 /\ ff 5 = .bool ((n.kids == 1) && decide (n.mn >= 0) && decide (n.mn <= 30) && ((n.mx == -1) || (decide (n.mx >= n.mn) && decide (n.mx <= 30))))) ?_ (fun ff tmp hff => ?_)
   ·refine qp (o := 6) ?_;refine ql hH at0 ?_;refine qg ?_;refine qm ?_;refine EvO.two 41 rfl (fun hg3 => ?_) (fun hg3 => ?_)
    ·refine qp (o := 2) ?_ (hg := wi hg3);refine ql hH at0 ?_ (hg := wi hg3);refine qg ?_ (hg := wi hg3);refine qt hg3 ?_;refine qm ?_;refine EvO.two 46 rfl (fun hg8 => ?_) (fun hg8 => ?_)
     ·refine qp (o := 2) ?_ (hg := wi hg8);refine ql hH at0 ?_ (hg := wi hg8);refine qg ?_ (hg := wi hg8);refine qt hg8 ?_;refine qm ?_;refine EvO.two 51 rfl (fun hg13 => ?_) (fun hg13 => ?_)
      ·refine qp (o := 3) ?_ (hg := wi hg13);refine ql hH at0 ?_ (hg := wi hg13);refine qg ?_ (hg := wi hg13);refine qm ?_ (hg := wi hg13);refine EvO.two 55 rfl (fun hg17 => ?_) (fun hg17 => ?_)
       ·refine qs ?_ (hg := wn hg17);refine qs ?_ (hg := wn hg17);refine qs ?_ (hg := wn hg17);refine qs ?_ (hg := wn hg17);refine qs ?_ (hg := wn hg17);refine qs ?_ (hg := wn hg17);refine qs ?_;refine qs ?_;refine qs ?_;refine qs ?_ (hg := wn hg17);refine EvO.pickT (wantD_is rfl rfl rfl hg13) rfl hg17 (put_T rfl _) ?_;refine qt hg13 ?_;refine qm ?_;refine qm ?_;refine EvO.nil (leafW ?_ ?_)
        ·dsimp only [setW,List.foldl,nth,u2,u1]
        ·dsimp only [nth];dsimp only [Fr.putO,Fr.put,Fr.clean,Fr.ev,Fr.get,nth,V.look,u1,u2,v1,v2,v3,v4,v5,v6,v7,List.length,u3,u4,Nat.reduceSub,Nat.reduceAdd,List.map];refine ⟨?_,?_⟩ <;> (first | rfl | (simp [hg3,hg8,hg13,hg17]; done) | (simp_all; done) | (simp [hg3,hg8,hg13,hg17]; omega) | (simp_all; omega))
       ·refine qp (o := 3) ?_ (hg := wi hg17);refine ql hH at0 ?_ (hg := wi hg17);refine qp (o := 2) ?_ (hg := wi hg17);refine ql hH at0 ?_ (hg := wi hg17);refine qg ?_ (hg := wi hg17);refine qm ?_ (hg := wi hg17);refine EvO.two 61 rfl (fun hg23 => ?_) (fun hg23 => ?_)
        ·refine qp (o := 3) ?_ (hg := wi hg23);refine ql hH at0 ?_ (hg := wi hg23);refine qg ?_ (hg := wi hg23);refine EvO.pickT (wantD_is rfl rfl rfl hg17) rfl hg23 (put_T rfl _) ?_;refine EvO.pickF (wantD_is rfl rfl rfl hg13) rfl hg17 (put_T rfl _) ?_;refine qt hg13 ?_;refine qm ?_;refine qm ?_;refine EvO.nil (leafW ?_ ?_)
         ·dsimp only [setW,List.foldl,nth,u2,u1]
         ·dsimp only [nth];dsimp only [Fr.putO,Fr.put,Fr.clean,Fr.ev,Fr.get,nth,V.look,u1,u2,v1,v2,v3,v4,v5,v6,v7,List.length,u3,u4,Nat.reduceSub,Nat.reduceAdd,List.map];refine ⟨?_,?_⟩ <;> (first | rfl | (simp [hg3,hg8,hg13,hg17,hg23]; done) | (simp_all; done) | (simp [hg3,hg8,hg13,hg17,hg23]; omega) | (simp_all; omega))
        ·refine qs ?_ (hg := wn hg23);refine qs ?_ (hg := wn hg23);refine qs ?_ (hg := wn hg23);refine EvO.pickF (wantD_is rfl rfl rfl hg17) rfl hg23 (put_T rfl _) ?_;refine EvO.pickF (wantD_is rfl rfl rfl hg13) rfl hg17 (put_T rfl _) ?_;refine qt hg13 ?_;refine qm ?_;refine qm ?_;refine EvO.nil (leafW ?_ ?_)
         ·dsimp only [setW,List.foldl,nth,u2,u1]
         ·dsimp only [nth];dsimp only [Fr.putO,Fr.put,Fr.clean,Fr.ev,Fr.get,nth,V.look,u1,u2,v1,v2,v3,v4,v5,v6,v7,List.length,u3,u4,Nat.reduceSub,Nat.reduceAdd,List.map];refine ⟨?_,?_⟩ <;> (first | rfl | (simp [hg3,hg8,hg13,hg17,hg23]; done) | (simp_all; done) | (simp [hg3,hg8,hg13,hg17,hg23]; omega) | (simp_all; omega))
      ·refine qs ?_ (hg := wn hg13);refine qs ?_ (hg := wn hg13);refine qs ?_ (hg := wn hg13);refine qs ?_ (hg := wn hg13);refine qs ?_;refine qs ?_;refine qs ?_;refine qs ?_;refine qs ?_;refine qs ?_;refine qs ?_;refine qs ?_;refine qs ?_;refine qs ?_;refine qs ?_ (hg := wn hg13);refine qu hg13 ?_;refine qm ?_;refine qm ?_;refine EvO.nil (leafW ?_ ?_)
       ·dsimp only [setW,List.foldl,nth,u2,u1]
       ·dsimp only [nth];dsimp only [Fr.putO,Fr.put,Fr.clean,Fr.ev,Fr.get,nth,V.look,u1,u2,v1,v2,v3,v4,v5,v6,v7,List.length,u3,u4,Nat.reduceSub,Nat.reduceAdd,List.map];refine ⟨?_,?_⟩ <;> (first | rfl | (simp [hg3,hg8,hg13]; done) | (simp_all; done) | (simp [hg3,hg8,hg13]; omega) | (simp_all; omega))
     ·refine qs ?_ (hg := wn hg8);refine qs ?_ (hg := wn hg8);refine qs ?_ (hg := wn hg8);refine qu hg8 ?_;refine qm ?_;refine qs ?_;refine qs ?_;refine qs ?_;refine qs ?_;refine qs ?_;refine qs ?_;refine qs ?_;refine qs ?_;refine qs ?_;refine qs ?_;refine qs ?_;refine qs ?_;refine qs ?_;refine qs ?_;refine qs ?_;refine qg ?_;refine qm ?_;refine qm ?_;refine EvO.nil (leafW ?_ ?_)
      ·dsimp only [setW,List.foldl,nth,u2,u1]
      ·dsimp only [nth];dsimp only [Fr.putO,Fr.put,Fr.clean,Fr.ev,Fr.get,nth,V.look,u1,u2,v1,v2,v3,v4,v5,v6,v7,List.length,u3,u4,Nat.reduceSub,Nat.reduceAdd,List.map];refine ⟨?_,?_⟩ <;> (first | rfl | (simp [hg3,hg8]; done) | (simp_all; done) | (simp [hg3,hg8]; omega) | (simp_all; omega))
    ·refine qs ?_ (hg := wn hg3);refine qs ?_ (hg := wn hg3);refine qs ?_ (hg := wn hg3);refine qu hg3 ?_;refine qm ?_;refine qs ?_;refine qs ?_;refine qs ?_;refine qg ?_;refine qm ?_;refine qs ?_;refine qs ?_;refine qs ?_;refine qs ?_;refine qs ?_;refine qs ?_;refine qs ?_;refine qs ?_;refine qs ?_;refine qs ?_;refine qs ?_;refine qs ?_;refine qs ?_;refine qs ?_;refine qs ?_;refine qg ?_;refine qm ?_;refine qm ?_;refine EvO.nil (leafW ?_ ?_)
     ·dsimp only [setW,List.foldl,nth,u2,u1]
     ·dsimp only [nth];dsimp only [Fr.putO,Fr.put,Fr.clean,Fr.ev,Fr.get,nth,V.look,u1,u2,v1,v2,v3,v4,v5,v6,v7,List.length,u3,u4,Nat.reduceSub,Nat.reduceAdd,List.map];refine ⟨?_,?_⟩ <;> (first | rfl | (simp [hg3]; done) | (simp_all; done) | (simp [hg3]; omega) | (simp_all; omega))
   dsimp only [setW,List.foldl,nth,u2,u1];obtain ⟨hff4,hff5⟩ := hff;rw [hff4,hff5];refine EvC.ret ⟨rx,_,rfl,rl hSb hH (rfl)⟩
  rw [if_neg q5];refine qq ?_;refine qj fun K hK => ?_;refine qg ?_;refine qm ?_;refine qe hK ?_;refine EvC.cond (by rfl) (fun q6 => ?_) (fun q6 => ?_) <;> try simp only [beq_iff_eq,beq_eq_false_iff_ne,ne_eq] at q6
  ·rw [if_pos q6];refine qq ?_;refine EvC.cutW [4,5] (fun ff => ff 4 = .int .i64 1 /\ ff 5 = .bool ((n.kids == 1) && (n.cap == ((g + 1 : Nat) : Int)) && decide (n.cap <= 4))) ?_ (fun ff tmp hff => ?_)
   ·refine qp (o := 6) ?_;refine ql hH at0 ?_;refine qg ?_;refine qm ?_;refine EvO.two 73 rfl (fun hg3 => ?_) (fun hg3 => ?_)
    ·refine qp (o := 5) ?_ (hg := wi hg3);refine ql hH at0 ?_ (hg := wi hg3);refine qm ?_ (hg := wi hg3);refine qA ?_ (hg := wi hg3);refine qg ?_ (hg := wi hg3);refine qt hg3 ?_;refine qm ?_;refine EvO.two 80 rfl (fun hg10 => ?_) (fun hg10 => ?_)
     ·refine qp (o := 5) ?_ (hg := wi hg10);refine ql hH at0 ?_ (hg := wi hg10);refine qg ?_ (hg := wi hg10);refine qt hg10 ?_;refine qm ?_;refine qm ?_;refine EvO.nil (leafW ?_ ?_)
      ·dsimp only [setW,List.foldl,nth,u2,u1]
      ·dsimp only [nth];dsimp only [Fr.putO,Fr.put,Fr.clean,Fr.ev,Fr.get,nth,V.look,u1,u2,v1,v2,v3,v4,v5,v6,v7,List.length,u3,u4,Nat.reduceSub,Nat.reduceAdd,List.map];refine ⟨?_,?_⟩ <;> (first | rfl | (simp [hg3,hg10]; done) | (simp_all; done) | (simp [hg3,hg10]; omega) | (simp_all; omega))
     ·refine qs ?_ (hg := wn hg10);refine qs ?_ (hg := wn hg10);refine qs ?_ (hg := wn hg10);refine qu hg10 ?_;refine qm ?_;refine qm ?_;refine EvO.nil (leafW ?_ ?_)
      ·dsimp only [setW,List.foldl,nth,u2,u1]
      ·dsimp only [nth];dsimp only [Fr.putO,Fr.put,Fr.clean,Fr.ev,Fr.get,nth,V.look,u1,u2,v1,v2,v3,v4,v5,v6,v7,List.length,u3,u4,Nat.reduceSub,Nat.reduceAdd,List.map];refine ⟨?_,?_⟩ <;> (first | rfl | (simp [hg3,hg10]; done) | (simp_all; done) | (simp [hg3,hg10]; omega) | (simp_all; omega))
    ·refine qs ?_ (hg := wn hg3);refine qs ?_ (hg := wn hg3);refine qs ?_ (hg := wn hg3);refine qs ?_ (hg := wn hg3);refine qs ?_ (hg := wn hg3);refine qu hg3 ?_;refine qm ?_;refine qs ?_;refine qs ?_;refine qs ?_;refine qg ?_;refine qm ?_;refine qm ?_;refine EvO.nil (leafW ?_ ?_)
     ·dsimp only [setW,List.foldl,nth,u2,u1]
     ·dsimp only [nth];dsimp only [Fr.putO,Fr.put,Fr.clean,Fr.ev,Fr.get,nth,V.look,u1,u2,v1,v2,v3,v4,v5,v6,v7,List.length,u3,u4,Nat.reduceSub,Nat.reduceAdd,List.map];refine ⟨?_,?_⟩ <;> (first | rfl | (simp [hg3]; done) | (simp_all; done) | (simp [hg3]; omega) | (simp_all; omega))
   dsimp only [setW,List.foldl,nth,u2,u1];obtain ⟨hff4,hff5⟩ := hff;rw [hff4,hff5];refine EvC.ret ⟨rx,_,rfl,rl hSb hH (rfl)⟩
  ·rw [if_neg q6];refine EvC.skip ?_;refine qq ?_;refine qj fun K hK => ?_;refine qm ?_;refine qm ?_;refine qe hK ?_;refine EvC.ret ⟨rx,_,rfl,rl hSb hH (rfl)⟩
theorem nod_refs {n : Nod} (h : n.ok) : refs (nodC n) = 0 := by
 have := h.1.ref;simp only [nodC,refs,D.ref,this,Nat.max_self]
def walkC (d : D) (at_ g : Nat) : List D := [d, .int .i64 (at_ : Nat), .int .i64 (g : Nat)]
theorem one_ev {l : List Nod} {d : D} (hl : l.length <= 1048576) (hi : ∀ n ∈ l,n.ok) (hd : SlD d 7 (l.map nodC)) : ∀ (f : Nat) {N k : Nat} {S s0 : St} {H : List Ent} {at_ g : Nat},f <= 241 -> g <= 4 -> Has N S s0 (.box k (.mem 0 false (walkC d at_ g)) :: H) ->
  ∃ r st',Ev pv 74 [.ptr k 0 0, .int .i64 ((241 - f : Nat) : Int)] s0 r st' /\ r = .bool (oneW l f at_ g).isSome /\ ∃ a' g',Has N S st' (.box k (.mem 0 false (walkC d a' g')) :: H) /\ g' <= 4 /\ ∀ q,oneW l f at_ g = some q -> a' = q.1 /\ g' = q.2 := by
 intro f
 induction f with
 | zero =>
  intro N k S s0 H at_ g hf hg hH;refine Ev.mkE rfl fi74 rfl rfl rfl ?_;dsimp only [u3,u4,List.length,Nat.reduceSub,Nat.reduceAdd,w1,w2];have hH0 := hH;have hH := hH.enterRw;have hS2 : (enterSt .rw s0).bs = s0.bs := rfl;generalize enterSt .rw s0 = S2 at *;have hc := hd.arg N S2;refine qq ?_;refine qj fun K hK => ?_;refine qm ?_;refine qe hK ?_;refine qq ?_;refine qq ?_;refine EvC.cutT 21 (.bool (decide ((at_ : Int) >= (l.length : Nat)) || decide (((241 - 0 : Nat) : Int) > 240))) [] ?_ (fun ff tmp htmp => ?_)
  ·refine qm ?_;refine qg ?_;refine qp (o := 1) ?_;refine ql hH at0 ?_;refine qm ?_;refine qg ?_;refine qp (o := 0) ?_;refine ql hH at0 ?_;refine qn ?_;simp only [List.length_map];refine qg ?_;refine qm ?_;refine EvO.two 18 rfl (fun hg10 => ?_) (fun hg10 => ?_)
   ·refine qs ?_ (hg := wn hg10);refine qs ?_ (hg := wn hg10);refine qt hg10 ?_;refine EvO.nil (leafT ?_ ?_)
    ·dsimp only [setW,List.foldl,nth,u2,u1]
     all_goals (first | rfl | simp)
    ·dsimp only [Fr.putO,Fr.put,Fr.clean,Fr.ev,Fr.get,nth,V.look,u1,u2,v1,v2,v3,v4,v5,v6,v7,List.length,u3,u4,Nat.reduceSub,Nat.reduceAdd,List.map]
     all_goals (simp [hg10]; done)
   ·refine qm ?_ (hg := wi hg10);refine qg ?_ (hg := wi hg10);refine qu hg10 ?_;refine EvO.nil (leafT ?_ ?_)
    ·dsimp only [setW,List.foldl,nth,u2,u1]
     all_goals (first | rfl | simp)
    ·dsimp only [Fr.putO,Fr.put,Fr.clean,Fr.ev,Fr.get,nth,V.look,u1,u2,v1,v2,v3,v4,v5,v6,v7,List.length,u3,u4,Nat.reduceSub,Nat.reduceAdd,List.map]
     all_goals (simp [hg10]; done)
  dsimp only [setW,List.foldl,nth,u2,u1];have hT : (decide ((at_ : Int) >= (l.length : Nat)) || decide (((241 - 0 : Nat) : Int) > 240)) = true := by simp
  rw [hT] at htmp;refine qB ?_;refine qq ?_;refine qj fun K hK => ?_;refine qm ?_;refine qe hK ?_;refine EvC.ret ⟨rx,_,_,_,rfl,leaveD_rw (rfl),?_⟩;exact ⟨rfl,_,_,hH0.leaveRw1 hS2 hH,hg,fun q hq => by simp [oneW] at hq⟩
 | succ f ih =>
  intro N k S s0 H at_ g hf hg hH;refine Ev.mkE rfl fi74 rfl rfl rfl ?_;dsimp only [u3,u4,List.length,Nat.reduceSub,Nat.reduceAdd,w1,w2];have hH0 := hH;have hH := hH.enterRw;have hS2 : (enterSt .rw s0).bs = s0.bs := rfl;generalize enterSt .rw s0 = S2 at *;have hc := hd.arg N S2;refine qq ?_;refine qj fun K hK => ?_;refine qm ?_;refine qe hK ?_;refine qq ?_;refine qq ?_;refine EvC.cutT 21 (.bool (decide ((at_ : Int) >= (l.length : Nat)) || decide (((241 - (f + 1) : Nat) : Int) > 240))) [] ?_ (fun ff tmp htmp => ?_)
  ·refine qm ?_;refine qg ?_;refine qp (o := 1) ?_;refine ql hH at0 ?_;refine qm ?_;refine qg ?_;refine qp (o := 0) ?_;refine ql hH at0 ?_;refine qn ?_;simp only [List.length_map];refine qg ?_;refine qm ?_;refine EvO.two 18 rfl (fun hg10 => ?_) (fun hg10 => ?_)
   ·refine qs ?_ (hg := wn hg10);refine qs ?_ (hg := wn hg10);refine qt hg10 ?_;refine EvO.nil (leafT ?_ ?_)
    ·dsimp only [setW,List.foldl,nth,u2,u1]
     all_goals (first | rfl | simp)
    ·dsimp only [Fr.putO,Fr.put,Fr.clean,Fr.ev,Fr.get,nth,V.look,u1,u2,v1,v2,v3,v4,v5,v6,v7,List.length,u3,u4,Nat.reduceSub,Nat.reduceAdd,List.map]
     all_goals (simp_all; done)
   ·refine qm ?_ (hg := wi hg10);refine qg ?_ (hg := wi hg10);refine qu hg10 ?_;refine EvO.nil (leafT ?_ ?_)
    ·dsimp only [setW,List.foldl,nth,u2,u1]
     all_goals (first | rfl | simp)
    ·dsimp only [Fr.putO,Fr.put,Fr.clean,Fr.ev,Fr.get,nth,V.look,u1,u2,v1,v2,v3,v4,v5,v6,v7,List.length,u3,u4,Nat.reduceSub,Nat.reduceAdd,List.map]
     all_goals (simp_all; omega)
  dsimp only [setW,List.foldl,nth,u2,u1]
  by_cases ha : l.length <= at_
  ·have hT : (decide ((at_ : Int) >= (l.length : Nat)) || decide (((241 - (f + 1) : Nat) : Int) > 240)) = true := by
    rw [Bool.or_eq_true]; exact .inl (by rw [decide_eq_true_eq]; omega)
   rw [hT] at htmp;have hn : oneW l (f + 1) at_ g = none := by unfold oneW; rw [List.getElem?_eq_none ha]
   rw [hn];refine qB ?_;refine qq ?_;refine qj fun K hK => ?_;refine qm ?_;refine qe hK ?_;refine EvC.ret ⟨rx,_,_,_,rfl,leaveD_rw (rfl),?_⟩;exact ⟨rfl,_,_,hH0.leaveRw1 hS2 hH,hg,fun q hq => by cases hq⟩
  ·have hT : (decide ((at_ : Int) >= (l.length : Nat)) || decide (((241 - (f + 1) : Nat) : Int) > 240)) = false := by
    rw [Bool.or_eq_false_iff]; exact ⟨by rw [decide_eq_false_iff_not]; omega,by rw [decide_eq_false_iff_not]; omega⟩
   rw [hT] at htmp
   obtain ⟨n,hn⟩ : ∃ n,l[at_]? = some n := ⟨l[at_]'(by omega),List.getElem?_eq_getElem _⟩
   have hno := hi n (List.mem_of_getElem? hn);have hr1 := nod_get hn;have hrf := nod_refs hno
   have hone : oneW l (f + 1) at_ g = if (shapeN n (g : Nat)).2 = true then kidsS (oneW l f) (shapeN n (g : Nat)).1.toNat (at_ + 1) (if n.op = 6 then g + 1 else g) else none := by
    rw [oneW,hn]
   rw [hone];clear hone;refine qC ?_;refine EvC.skip ?_;refine qq ?_;refine qj fun K hK => ?_;refine qm ?_;refine qg ?_;refine qp (o := 0) ?_;refine ql hH at0 ?_;refine qm ?_;refine qg ?_;refine qp (o := 1) ?_;refine ql hH at0 ?_;refine qr fun p30 hp30 => ?_;refine EvO.rloadS rfl (ev rfl) (by assumption) rfl (put_T rfl _) ?_;refine qa hH fun k5 st hk5 hH => ?_;dsimp only [u2,u1,u3,u4,setMany,u5,u6,D.cells,Nat.reduceAdd,walkC,nodC] at hH;refine EvO.hstoreA hH rfl (ev rfl) (ev rfl) (by rfl) (by exact rfl) (by exact at0) (by exact rfl) (by exact .inr (by assumption)) (fun st hH => ?_);dsimp only [u2,u1,u3,u4,setMany,u5,u6,D.cells,Nat.reduceAdd,walkC,nodC] at hH;refine qe hK ?_;refine qq ?_;refine qj fun K hK => ?_;refine EvO.hloadS (m := 7) hH rfl (ev rfl) (by exact at0) (by dsimp only [List.drop_succ_cons,List.drop_zero,List.take_succ_cons,List.take_zero,walkC,nodC] <;> rfl) rfl rfl (put_T rfl _) ?_;refine qm ?_;refine qg ?_;refine qp (o := 2) ?_;refine ql hH at1 ?_;refine qv (shaped2_ev hno (by omega)) ?_;refine qm ?_;refine qg ?_;refine qg ?_;refine qm ?_;refine qm ?_;refine qe hK ?_;refine qq ?_;refine qq ?_;refine qj fun K hK => ?_;refine qm ?_;refine qg ?_;refine qe hK ?_
   cases hsh : (shapeN n (g : Nat)).2 with
   | false =>
    rw [if_neg (by simp)];refine qB ?_;refine qq ?_;refine qj fun K hK => ?_;refine qm ?_;refine qe hK ?_;refine EvC.ret ⟨rx,_,_,_,rfl,leaveD_rw (rfl),?_⟩;exact ⟨rfl,_,_,hH0.leaveRw1 hS2 (hH.drop 1),hg,fun q hq => by cases hq⟩
   | true =>
    rw [if_pos rfl];obtain ⟨⟨hk1,_⟩,hk2,hk3⟩ := shape_ok hsh;have hk4 := hno.2.2;obtain ⟨kd,hkd⟩ : ∃ kd : Nat,(shapeN n (g : Nat)).1 = (kd : Int) := Int.eq_ofNat_of_zero_le hk2;rw [hkd,Int.toNat_natCast];rw [hkd,Int.toNat_natCast] at hk1;refine qC ?_;refine EvC.skip ?_;refine qq ?_;refine qj fun K hK => ?_;refine qm ?_;refine qg ?_;refine qp (o := 1) ?_;refine ql hH at1 ?_;refine qA ?_;refine qg ?_;refine qp (o := 1) ?_;refine qT hH at1 fun st hH => ?_;dsimp only [u2,u1,u3,u4,setMany,u5,u6,D.cells,Nat.reduceAdd,walkC,nodC] at hH;refine qe hK ?_;refine qq ?_;refine qq ?_;refine qj fun K hK => ?_;refine qp (o := 0) ?_;refine ql hH at0 ?_;refine qg ?_;refine qe hK ?_;refine EvC.merge (fun fr st => ∃ (g2 : Nat) (tmp : List (Nat × D)),fr = ⟨8, [.ptr k 0 0, .int .i64 ((241 - (f + 1) : Nat) : Int),ixF_Qd fr 2,ixF_Qd fr 3, .bool false, .ptr k5 0 0, .int .i64 (kd : Nat), .bool true],tmp⟩ /\ Has N S2 st (.box k (.mem 0 false [d, .int .i64 ((at_ + 1 : Nat) : Int), .int .i64 (g2 : Nat)]) :: .box k5 (.mem 0 false (nodC n)) :: H) /\ (g2 = if n.op = 6 then g + 1 else g) /\ (g2 <= 4)) ?_ ?_
    ·refine EvC.cond (by rfl) (fun q6 => ?_) (fun q6 => ?_) <;> try simp only [beq_iff_eq,beq_eq_false_iff_ne,ne_eq] at q6
     ·have := hk3 q6;refine qj fun K hK => ?_;refine qm ?_;refine qg ?_;refine qp (o := 2) ?_;refine ql hH at1 ?_;refine qA ?_;refine qg ?_;refine qp (o := 2) ?_;refine qT hH at1 fun st hH => ?_;dsimp only [u2,u1,u3,u4,setMany,u5,u6,D.cells,Nat.reduceAdd,walkC,nodC] at hH;refine qe hK ?_;exact ⟨g + 1,_,rfl,(by have := hH.front at1; exact this),by rw [if_pos q6],by omega⟩
     ·refine EvC.skip ?_;exact ⟨g,_,rfl,(by have := hH.front at1; exact this),by rw [if_neg q6],hg⟩
    ·rintro fr st ⟨g2,tmp,hfr,hH,hg2,hg3⟩;rw [hfr];clear hfr;generalize ixF_Qd fr = ee;clear fr;rw [<- hg2];refine qq ?_;refine EvC.block ?_;refine EvC.loop (fun mm fr st => ∃ (kk a2 g4 : Nat),fr.clean = ⟨8, [.ptr k 0 0, .int .i64 ((241 - (f + 1) : Nat) : Int),ixF_Qd fr 2,ixF_Qd fr 3, .bool false, .ptr k5 0 0, .int .i64 (kk : Nat), .bool true], []⟩ /\ Has N S2 st (.box k (.mem 0 false [d, .int .i64 (a2 : Nat), .int .i64 (g4 : Nat)]) :: .box k5 (.mem 0 false (nodC n)) :: H) /\ (kidsS (oneW l f) kk a2 g4 = kidsS (oneW l f) kd (at_ + 1) g2) /\ (g4 <= 4) /\ (kk = mm) /\ (kk <= 9223372036854775807)) (kd) ?_ ?_
     ·exact ⟨kd,at_ + 1,g2,rfl,hH,rfl,hg3,rfl,by omega⟩
     rintro mm fr st ⟨kk,a2,g4,hfr,hH,hX,hg5,hmk,hkk⟩;rw [hfr];clear hfr;generalize ixF_Qd fr = ee;clear fr;refine qq ?_;refine qq ?_;refine qj fun K hK => ?_;refine qm ?_;refine qg ?_;refine qe hK ?_
     cases kk with
     | zero =>
      refine EvC.cond (v := false) (by dsimp only [Fr.ev,Fr.get,nth,V.look]; rfl) (fun h => by cases h) (fun _ => ?_);refine EvC.exit ?_;refine qq ?_;refine qj fun K hK => ?_;refine qm ?_;refine qe hK ?_;refine EvC.ret ⟨rx,_,_,_,rfl,leaveD_rw (rfl),?_⟩;exact ⟨by rw [<- hX]; rfl,_,_,hH0.leaveRw1 hS2 (hH.erase 1),hg5,fun q hq => by rw [<- hX] at hq; simp only [kidsS,Option.some.injEq] at hq; subst hq; exact ⟨rfl,rfl⟩⟩
     | succ kk =>
      rw [kidsS] at hX;refine qD rfl (by simp) ?_;refine EvC.skip ?_;refine qq ?_;refine EvC.block ?_;refine qq ?_;refine qj fun K hK => ?_;refine qm ?_;refine qm ?_;refine EvO.addZ (z := ((241 - f : Nat) : Int)) rfl (ev rfl) (ev rfl) (by (try simp only [List.length_reverse,List.length_cons,List.length_nil,List.length_append,List.length_map,List.length_set]); rw [wrap_i64 (by omega) (by omega)] <;> omega) (put_T rfl _) ?_;obtain ⟨_,st,hev,rfl,a',g',hH,hg6,hq⟩ := ih (at_ := a2) (g := g4) (by omega) hg5 hH;refine qv hev ?_;refine qg ?_;refine qe hK ?_
      cases ho : oneW l f a2 g4 with
      | none =>
       rw [ho] at hX;refine qB ?_;refine qq ?_;refine qj fun K hK => ?_;refine qm ?_;refine qe hK ?_;refine EvC.ret ⟨rx,_,_,_,rfl,leaveD_rw (rfl),?_⟩;exact ⟨by rw [<- hX]; rfl,_,_,hH0.leaveRw1 hS2 (hH.erase 1),hg6,fun q hq => by rw [<- hX] at hq; cases hq⟩
      | some q =>
       rw [ho] at hX;obtain ⟨rfl,rfl⟩ := hq q ho;refine qC ?_;refine EvC.skip ?_;refine qj fun K hK => ?_;refine qm ?_;refine EvO.subZ (z := ((kk : Nat) : Int)) rfl (ev rfl) (ev rfl) (by (try simp only [List.length_reverse,List.length_cons,List.length_nil,List.length_append,List.length_map,List.length_set]); rw [wrap_i64 (by omega) (by omega)] <;> omega) (put_T rfl _) ?_;refine qm ?_;refine qe hK ?_;exact ⟨mm - 1,by omega,⟨kk,q.1,q.2,rfl,hH,hX,hg6,by omega,by omega⟩⟩
theorem rightL_ev {s0 : St} {x : Nl} (hx : x.ok) : Ev pv 40 [x.d] s0 (.bool (rightN x.l)) s0 := by
 refine Ev.mk1 rfl fi40 rfl rfl rfl ?_;dsimp only [u3,u4,List.length,Nat.reduceSub,Nat.reduceAdd,w1,w2];obtain ⟨hSb,hF,hH⟩ := ri s0;generalize enterSt .ro s0 = S at *;have hc := hx.c.arg s0.bs.length S;have hl := hx.nl;have hcd := hx.c;refine qq ?_;refine qj fun K hK => ?_;refine qm ?_;refine qe hK ?_;refine qq ?_;refine qq ?_;refine EvC.cutT 11 (.bool (decide (((x.l.length : Nat) : Int) < 1) || decide (((x.l.length : Nat) : Int) > 480))) [] ?_ (fun ff tmp htmp => ?_)
 ·refine qm ?_;refine qn ?_;simp only [List.length_map];refine qg ?_;refine qm ?_;refine EvO.two 7 rfl (fun hg3 => ?_) (fun hg3 => ?_)
  ·refine qs ?_ (hg := wn hg3);refine qs ?_ (hg := wn hg3);refine qs ?_ (hg := wn hg3);refine qt hg3 ?_;refine EvO.nil (leafT ?_ ?_)
   ·dsimp only [setW,List.foldl,nth,u2,u1]
    all_goals (first | rfl | simp)
   ·dsimp only [Fr.putO,Fr.put,Fr.clean,Fr.ev,Fr.get,nth,V.look,u1,u2,v1,v2,v3,v4,v5,v6,v7,List.length,u3,u4,Nat.reduceSub,Nat.reduceAdd,List.map]
    all_goals (simp [hg3]; done)
  ·refine qm ?_ (hg := wi hg3);refine qn ?_ (hg := wi hg3);simp only [List.length_map];refine qg ?_ (hg := wi hg3);refine qu hg3 ?_;refine EvO.nil (leafT ?_ ?_)
   ·dsimp only [setW,List.foldl,nth,u2,u1]
    all_goals (first | rfl | simp)
   ·dsimp only [Fr.putO,Fr.put,Fr.clean,Fr.ev,Fr.get,nth,V.look,u1,u2,v1,v2,v3,v4,v5,v6,v7,List.length,u3,u4,Nat.reduceSub,Nat.reduceAdd,List.map]
    all_goals (simp [hg3]; done)
 dsimp only [setW,List.foldl,nth,u2,u1]
 by_cases hlen : 1 <= x.l.length /\ x.l.length <= 480
 ·have hT : (decide (((x.l.length : Nat) : Int) < 1) || decide (((x.l.length : Nat) : Int) > 480)) = false := by
   rw [Bool.or_eq_false_iff]; exact ⟨by rw [decide_eq_false_iff_not]; omega,by rw [decide_eq_false_iff_not]; omega⟩
  rw [hT] at htmp
  have hR : rightN x.l = (match oneW x.l 241 0 0 with | some r => decide (r.1 = x.l.length) | none => false) := by
   unfold rightN; rw [decide_eq_true hlen.1,decide_eq_true hlen.2]; rfl
  rw [hR];clear hR;refine qC ?_;refine EvC.skip ?_;refine qq ?_;refine qj fun K hK => ?_;refine qm ?_;refine EvO.ones (qs := [(0,_)]) rfl rfl rfl rfl ⟨rfl,(ev rfl),(by exact (SlD.cells (by assumption)).1),trivial⟩ (by intro q hq; simp only [List.mem_cons,List.not_mem_nil,or_false] at hq; rcases hq with rfl <;> exact ⟨rfl,by exact Nat.le_of_ble_eq_true rfl⟩) (by show List.foldl _ [_,_,_] _ = _; dsimp only [List.foldl_cons,List.foldl_nil,u2,u1] <;> rfl) (put_T rfl _) ?_;refine qb hH fun k14 st hk14 hH => ?_;refine qm ?_;refine qe hK ?_;have hH : Has s0.bs.length S st (.box k14 (.mem 0 false (walkC x.d 0 0)) :: []) := hH
  cases hg2 : (oneW x.l 241 0 0).isSome with
  | true =>
   obtain ⟨q,hq⟩ := Option.isSome_iff_exists.1 hg2;refine qq ?_;refine qj fun K hK => ?_;refine qm ?_;obtain ⟨_,st,hev,rfl,a',g',hH,hg6,hqq⟩ := one_ev hl hx.i hx.c 241 (by omega) (by omega) hH;refine qv hev ?_;refine qm ?_;refine qm ?_ (hg := wi hg2);refine qg ?_ (hg := wi hg2);refine qp (o := 1) ?_ (hg := wi hg2);refine ql hH at0 ?_ (hg := wi hg2);refine qm ?_ (hg := wi hg2);refine qn ?_ (hg := wi hg2);simp only [List.length_map];refine qg ?_ (hg := wi hg2);refine qt hg2 ?_;refine qm ?_;refine qe hK ?_;obtain ⟨rfl,rfl⟩ := hqq q hq;rw [hq]
   have he : decide (q.1 = x.l.length) = (((q.1 : Nat) : Int) == ((x.l.length : Nat) : Int)) := by
    rw [Bool.eq_iff_iff]; simp only [decide_eq_true_eq,beq_iff_eq]; omega
   simp only [he];refine EvC.ret ⟨rx,_,rfl,rl hSb hH (rfl)⟩
  | false =>
   have hq : oneW x.l 241 0 0 = none := by
    cases hq : oneW x.l 241 0 0 with
    | none => rfl
    | some q => rw [hq] at hg2; cases hg2
   refine qq ?_;refine qj fun K hK => ?_;refine qm ?_;obtain ⟨_,st,hev,rfl,a',g',hH,hg6,hqq⟩ := one_ev hl hx.i hx.c 241 (by omega) (by omega) hH;refine qv hev ?_;refine qm ?_;refine qs ?_ (hg := wn hg2);refine qs ?_ (hg := wn hg2);refine qs ?_ (hg := wn hg2);refine qs ?_ (hg := wn hg2);refine qs ?_ (hg := wn hg2);refine qs ?_ (hg := wn hg2);refine qs ?_ (hg := wn hg2);refine qu hg2 ?_;refine qm ?_;refine qe hK ?_;rw [hq];refine EvC.ret ⟨rx,_,rfl,rl hSb hH (rfl)⟩
 ·have hT : (decide (((x.l.length : Nat) : Int) < 1) || decide (((x.l.length : Nat) : Int) > 480)) = true := by
   rw [Bool.or_eq_true,decide_eq_true_eq,decide_eq_true_eq]; omega
  rw [hT] at htmp
  have hR : rightN x.l = false := by
   unfold rightN
   by_cases h1 : 1 <= x.l.length
   ·rw [decide_eq_true h1,decide_eq_false (fun h2 => hlen ⟨h1,h2⟩)]; rfl
   ·rw [decide_eq_false h1]; rfl
  rw [hR];refine qB ?_;refine qq ?_;refine qj fun K hK => ?_;refine qm ?_;refine qe hK ?_;refine EvC.ret ⟨rx,_,rfl,rl hSb hH (rfl)⟩
end Go.Proofs.Ytnleclohocdkaaa
