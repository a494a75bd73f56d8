/- own -/
import Derived.Test.YtnleclohocdkaaaWGCa
import Derived.Test.YtnleclohocdkaaaWGM3
import Derived.Test.YtnleclohocdkaaaWGHr
set_option maxRecDepth 100000
set_option linter.unusedSimpArgs false
set_option linter.unusedVariables false
set_option linter.unusedSectionVars false
set_option maxHeartbeats 4000000
namespace Go.Proofs.Ytnleclohocdkaaa
open Go.V Go
structure Nod where
  op : Int
  rd : D
  rs : List Rg
  mn : Int
  mx : Int
  lz : Bool
  cap : Int
  kids : Int
def nodC (n : Nod) : List D := [.int .i64 n.op,n.rd, .int .i64 n.mn, .int .i64 n.mx, .bool n.lz, .int .i64 n.cap, .int .i64 n.kids]
def Nod.ok (n : Nod) : Prop := SlD n.rd 2 (n.rs.map rangeC) /\ n.rs.length <= 1048576 /\ n.kids <= 9223372036854775807
structure Nl where
  d : D
  l : List Nod
structure Nl.ok (x : Nl) : Prop where
  c : SlD x.d 7 (x.l.map nodC)
  i : ∀ n ∈ x.l,n.ok
  nl : x.l.length <= 1048576
theorem nod_get {l : List Nod} {i : Nat} {q : Nod} (h : l[i]? = some q) : (l.map nodC)[i]? = some (nodC q) := by rw [List.getElem?_map,h]; rfl
mutual
inductive Tr where
  | mk (n : Nod) (ks : Trs)
inductive Trs where
  | nil
  | cons (t : Tr) (ts : Trs)
end
def Trs.len : Trs -> Nat
  | .nil => 0
  | .cons _ ts => ts.len + 1
mutual
def Tr.flat : Tr -> List Nod
  | .mk n ks => n :: ks.flat
def Trs.flat : Trs -> List Nod
  | .nil => []
  | .cons t ts => t.flat ++ ts.flat
end
def nodOk (n : Nod) (nk : Nat) : Prop :=
  n.kids = (nk : Int) /\ (((n.op = 1 \/ n.op = 7 \/ n.op = 8) /\ nk = 0) \/ (n.op = 2 /\ nk = 0) \/ ((n.op = 3 \/ n.op = 4) /\ 2 <= nk) \/
    (n.op = 5 /\ nk = 1 /\ 0 <= n.mn /\ n.mn <= 30 /\ (n.mx = -1 \/ (n.mn <= n.mx /\ n.mx <= 30))) \/ (n.op = 6 /\ nk = 1 /\ 1 <= n.cap /\ n.cap <= 4))
mutual
def Tr.ok : Tr -> Prop
  | .mk n ks => nodOk n ks.len /\ ks.ok
def Trs.ok : Trs -> Prop
  | .nil => True
  | .cons t ts => t.ok /\ ts.ok
end
def nodSz (n : Nod) (s k : Nat) : Nat :=
  if n.op = 2 \/ n.op = 7 \/ n.op = 8 then 1
  else if n.op = 4 then s + 2 * (k - 1)
  else if n.op = 6 then s + 2
  else if n.op = 5 then (if n.mx = -1 then n.mn.toNat * s + s + 2 else n.mn.toNat * s + (n.mx.toNat - n.mn.toNat) * (s + 1))
  else s
mutual
def Tr.sz : Tr -> Nat
  | .mk n ks => nodSz n ks.sz ks.len
def Trs.sz : Trs -> Nat
  | .nil => 0
  | .cons t ts => t.sz + ts.sz
end
def mkI (op x y : Int) (rs : List Rg) : PIns := ⟨op,x,y, .sl ((rs.map rangeC).map (elD 2)),rs⟩
def spI (s o : Nat) (lz : Bool) : PIns := if lz = true then mkI 2 (o : Nat) ((s + 1 : Nat) : Int) [] else mkI 2 ((s + 1 : Nat) : Int) (o : Nat) []
def jpI (e : Nat) : PIns := mkI 3 (e : Nat) 0 []
def repC (c : Nat -> List PIns) (z : Nat) : Nat -> Nat -> List PIns
  | 0,_ => []
  | k + 1,b => c b ++ repC c z k (b + z)
def optC (sp : Nat -> PIns) (c : Nat -> List PIns) (z : Nat) : Nat -> Nat -> List PIns
  | 0,_ => []
  | k + 1,b => sp b :: (c (b + 1) ++ optC sp c z k (b + 1 + z))
def optJ (z : Nat) : Nat -> Nat -> List Nat
  | 0,_ => []
  | k + 1,b => b :: optJ z k (b + 1 + z)
def rptC (n : Nod) (c : Nat -> List PIns) (z b : Nat) : List PIns :=
  if n.mx = -1 then repC c z n.mn.toNat b ++ (spI (b + n.mn.toNat * z) (b + n.mn.toNat * z + z + 2) n.lz :: (c (b + n.mn.toNat * z + 1) ++ [jpI (b + n.mn.toNat * z)]))
  else repC c z n.mn.toNat b ++ optC (fun s => spI s (b + n.mn.toNat * z + (n.mx.toNat - n.mn.toNat) * (z + 1)) n.lz) c z (n.mx.toNat - n.mn.toNat) (b + n.mn.toNat * z)
mutual
def codeT : Tr -> Nat -> List PIns
  | .mk n ks,b =>
    if n.op = 2 then [mkI 1 0 0 n.rs]
    else if n.op = 7 then [mkI 5 0 0 []]
    else if n.op = 8 then [mkI 6 0 0 []]
    else if n.op = 3 then catT ks b
    else if n.op = 4 then altT (jpI (b + nodSz n ks.sz ks.len)) ks b
    else if n.op = 5 then rptC n (catT ks) ks.sz b
    else if n.op = 6 then mkI 4 (2 * n.cap) 0 [] :: (catT ks (b + 1) ++ [mkI 4 (2 * n.cap + 1) 0 []])
    else []
def catT : Trs -> Nat -> List PIns
  | .nil,_ => []
  | .cons t ts,b => codeT t b ++ catT ts (b + t.sz)
def altT (jp : PIns) : Trs -> Nat -> List PIns
  | .nil,_ => []
  | .cons t ts,b => if ts.len = 0 then codeT t b else spI b (b + 1 + t.sz + 1) false :: (codeT t (b + 1) ++ jp :: altT jp ts (b + t.sz + 2))
end
def altJ : Trs -> Nat -> List Nat
  | .nil,_ => []
  | .cons t ts,b => if ts.len = 0 then [] else (b + 1 + t.sz) :: altJ ts (b + t.sz + 2)
theorem repC_len {c : Nat -> List PIns} {z : Nat} (hc : ∀ b,(c b).length = z) : ∀ k b,(repC c z k b).length = k * z
  | 0,b => by simp [repC]
  | k + 1,b => by rw [repC,List.length_append,hc,repC_len hc k,Nat.add_mul]; omega
theorem optC_len {sp : Nat -> PIns} {c : Nat -> List PIns} {z : Nat} (hc : ∀ b,(c b).length = z) : ∀ k b,(optC sp c z k b).length = k * (z + 1)
  | 0,b => by simp [optC]
  | k + 1,b => by rw [optC,List.length_cons,List.length_append,hc,optC_len hc k,Nat.add_mul]; omega
theorem rptC_len {n : Nod} {c : Nat -> List PIns} {z b : Nat} (hc : ∀ b,(c b).length = z) (h : n.op = 5) : (rptC n c z b).length = nodSz n z 1 := by
  unfold rptC nodSz
  rw [if_neg (show ¬ (n.op = 2 \/ n.op = 7 \/ n.op = 8) by omega),if_neg (show ¬ n.op = 4 by omega),if_neg (show ¬ n.op = 6 by omega),if_pos h]
  split
  · rw [List.length_append,repC_len hc,List.length_cons,List.length_append,hc]; simp only [List.length_cons,List.length_nil]; omega
  · rw [List.length_append,repC_len hc,optC_len hc]
theorem Trs.len_one {ks : Trs} (h : ks.len = 1) : ∃ t,ks = .cons t .nil := by
  cases ks with
  | nil => simp [Trs.len] at h
  | cons t ts => cases ts with
    | nil => exact ⟨t,rfl⟩
    | cons u us => simp [Trs.len] at h
theorem Trs.len_nil {ks : Trs} (h : ks.len = 0) : ks = .nil := by
  cases ks with
  | nil => rfl
  | cons t ts => simp [Trs.len] at h
mutual
theorem codeT_len : ∀ (t : Tr) (b : Nat),t.ok -> (codeT t b).length = t.sz
  | .mk n ks,b,h => by
    simp only [Tr.ok] at h
    obtain ⟨h1,h2⟩ := h
    have hc := fun b => catT_len ks b h2
    have ha := fun jp b => altT_len jp ks b h2
    simp only [codeT,Tr.sz]
    obtain ⟨_,⟨h3,h4⟩ | ⟨h3,h4⟩ | ⟨h3,h4⟩ | ⟨h3,h4,h5⟩ | ⟨h3,h4,h5⟩⟩ := h1
    · have hk := Trs.len_nil h4
      subst hk
      by_cases q7 : n.op = 7
      · simp [q7,nodSz]
      · by_cases q8 : n.op = 8
        · simp [q8,nodSz]
        · have q1 : n.op = 1 := by omega
          simp [q1,nodSz,Trs.sz]
    · simp [h3,nodSz]
    · rcases h3 with h3 | h3
      · simp [h3,nodSz,hc]
      · simp [h3,nodSz,ha]
    · have := rptC_len (n := n) (b := b) hc h3
      simp only [h3] at this ⊢
      simp only [show ¬ ((5 : Int) = 2) by decide,show ¬ ((5 : Int) = 7) by decide,show ¬ ((5 : Int) = 8) by decide,show ¬ ((5 : Int) = 3) by decide,show ¬ ((5 : Int) = 4) by decide,if_false,if_true]
      rw [this,h4]
    · simp [h3,nodSz,hc]
theorem catT_len : ∀ (ts : Trs) (b : Nat),ts.ok -> (catT ts b).length = ts.sz
  | .nil,b,_ => by simp [catT,Trs.sz]
  | .cons t ts,b,h => by
    simp only [Trs.ok] at h
    simp only [catT,Trs.sz,List.length_append]
    rw [codeT_len t b h.1,catT_len ts _ h.2]
theorem altT_len (jp : PIns) : ∀ (ts : Trs) (b : Nat),ts.ok -> (altT jp ts b).length = ts.sz + 2 * (ts.len - 1)
  | .nil,b,_ => by simp [altT,Trs.sz,Trs.len]
  | .cons t ts,b,h => by
    simp only [Trs.ok] at h
    have h1 := altT_len jp ts (b + t.sz + 2) h.2
    simp only [altT,Trs.sz,Trs.len]
    by_cases q : ts.len = 0
    · rw [if_pos q,codeT_len t b h.1,q]
      have := Trs.len_nil q
      subst this
      simp [Trs.sz]
    · rw [if_neg q,List.length_cons,List.length_append,List.length_cons,codeT_len t _ h.1,h1]
      omega
end
def setAll (f : Nat -> PIns) (c : List PIns) (l : List Nat) : List PIns := l.foldl (fun c j => c.set j (f j)) c
theorem set_mid {α : Type} (pre post : List α) (x y : α) : (pre ++ x :: post).set pre.length y = pre ++ y :: post := by
  rw [List.set_append_right _ _ (Nat.le_refl _),Nat.sub_self]; rfl
theorem get_mid {α : Type} (pre post : List α) (x : α) : (pre ++ x :: post)[pre.length]? = some x := by
  rw [List.getElem?_append_right (Nat.le_refl _),Nat.sub_self]; rfl
theorem opt_patch {sp : Nat -> PIns} {c : Nat -> List PIns} {z : Nat} (hc : ∀ b,(c b).length = z) {i0 : PIns} : ∀ (k b : Nat) (pre post : List PIns),pre.length = b -> setAll sp (pre ++ optC (fun _ => i0) c z k b ++ post) (optJ z k b) = pre ++ optC sp c z k b ++ post /\ ∀ j ∈ optJ z k b,(pre ++ optC (fun _ => i0) c z k b ++ post)[j]? = some i0
  | 0,b,pre,post,_ => ⟨rfl,fun j hj => by cases hj⟩
  | k + 1,b,pre,post,h => by
    have ih := opt_patch (sp := sp) hc (i0 := i0) k (b + 1 + z) (pre ++ i0 :: c (b + 1)) post (by rw [List.length_append,List.length_cons,hc]; omega)
    have ih2 := opt_patch (sp := sp) hc (i0 := i0) k (b + 1 + z) (pre ++ sp b :: c (b + 1)) post (by rw [List.length_append,List.length_cons,hc]; omega)
    simp only [optC,optJ]
    have e : pre ++ i0 :: (c (b + 1) ++ optC (fun _ => i0) c z k (b + 1 + z)) ++ post = pre ++ i0 :: (c (b + 1) ++ optC (fun _ => i0) c z k (b + 1 + z) ++ post) := by simp
    have e2 : pre ++ i0 :: c (b + 1) ++ optC (fun _ => i0) c z k (b + 1 + z) ++ post = pre ++ i0 :: (c (b + 1) ++ optC (fun _ => i0) c z k (b + 1 + z) ++ post) := by simp
    refine ⟨?_,fun j hj => ?_⟩
    · unfold setAll at ih2 ⊢
      rw [List.foldl_cons,e]
      have hs : (pre ++ i0 :: (c (b + 1) ++ optC (fun _ => i0) c z k (b + 1 + z) ++ post)).set b (sp b) = pre ++ sp b :: c (b + 1) ++ optC (fun _ => i0) c z k (b + 1 + z) ++ post := by
        rw [<- h,set_mid]; simp
      rw [hs,ih2.1]; simp
    · rw [e]
      rcases List.mem_cons.1 hj with rfl | hj
      · rw [<- h]; exact get_mid _ _ _
      · rw [<- e2]; exact ih.2 j hj
theorem alt_patch {jp i0 : PIns} : ∀ (ts : Trs) (b : Nat) (pre post : List PIns),ts.ok -> pre.length = b -> setAll (fun _ => jp) (pre ++ altT i0 ts b ++ post) (altJ ts b) = pre ++ altT jp ts b ++ post /\ ∀ j ∈ altJ ts b,(pre ++ altT i0 ts b ++ post)[j]? = some i0
  | .nil,b,pre,post,_,_ => ⟨by simp [altT,altJ,setAll],fun j hj => by simp [altJ] at hj⟩
  | .cons t ts,b,pre,post,hok,h => by
    simp only [Trs.ok] at hok
    by_cases q : ts.len = 0
    · simp only [altT,altJ,if_pos q]
      exact ⟨rfl,fun j hj => by cases hj⟩
    · simp only [altT,altJ,if_neg q]
      generalize spI b (b + 1 + t.sz + 1) false = sp
      have hcl := codeT_len t (b + 1) hok.1
      have ih := alt_patch (jp := jp) (i0 := i0) ts (b + t.sz + 2) (pre ++ sp :: (codeT t (b + 1) ++ [i0])) post hok.2 (by simp only [List.length_append,List.length_cons,List.length_nil,hcl]; omega)
      have ih2 := alt_patch (jp := jp) (i0 := i0) ts (b + t.sz + 2) (pre ++ sp :: (codeT t (b + 1) ++ [jp])) post hok.2 (by simp only [List.length_append,List.length_cons,List.length_nil,hcl]; omega)
      generalize altT i0 ts (b + t.sz + 2) = A at *
      have e : pre ++ sp :: (codeT t (b + 1) ++ i0 :: A) ++ post = (pre ++ sp :: codeT t (b + 1)) ++ i0 :: (A ++ post) := by simp
      have hl : (pre ++ sp :: codeT t (b + 1)).length = b + 1 + t.sz := by simp only [List.length_append,List.length_cons,hcl]; omega
      refine ⟨?_,fun j hj => ?_⟩
      · unfold setAll at ih2 ⊢
        rw [List.foldl_cons,e, <- hl,set_mid]
        have := ih2.1
        simp only [List.append_assoc,List.cons_append,List.nil_append] at this ⊢
        exact this
      · rw [e]
        rcases List.mem_cons.1 hj with rfl | hj
        · rw [<- hl]; exact get_mid _ _ _
        · have := ih.2 j hj
          simp only [List.append_assoc,List.cons_append,List.nil_append] at this ⊢
          exact this
def Seg {α : Type} (L : List α) (at_ : Nat) (M : List α) : Prop := ∃ post,L.drop at_ = M ++ post
theorem Seg.head {α : Type} {L M : List α} {a : α} {at_ : Nat} (h : Seg L at_ (a :: M)) : L[at_]? = some a := by
  obtain ⟨post,h⟩ := h
  have := congrArg (·[0]?) h
  simpa using this
theorem Seg.tail {α : Type} {L M : List α} {a : α} {at_ : Nat} (h : Seg L at_ (a :: M)) : Seg L (at_ + 1) M := by
  obtain ⟨post,h⟩ := h
  refine ⟨post,?_⟩
  rw [<- List.drop_drop,h]; rfl
theorem Seg.left {α : Type} {L M M' : List α} {at_ : Nat} (h : Seg L at_ (M ++ M')) : Seg L at_ M := by
  obtain ⟨post,h⟩ := h
  exact ⟨M' ++ post,by rw [h,List.append_assoc]⟩
theorem Seg.right {α : Type} {L M M' : List α} {at_ : Nat} (h : Seg L at_ (M ++ M')) : Seg L (at_ + M.length) M' := by
  obtain ⟨post,h⟩ := h
  refine ⟨post,?_⟩
  rw [<- List.drop_drop,h,List.append_assoc,List.drop_left]
theorem Seg.le {α : Type} {L M : List α} {at_ : Nat} (h : Seg L at_ M) (hM : M ≠ []) : at_ + M.length <= L.length := by
  obtain ⟨post,h⟩ := h
  have := congrArg List.length h
  simp only [List.length_drop,List.length_append] at this
  have : 0 < M.length := by cases M with | nil => exact absurd rfl hM | cons _ _ => simp
  omega
theorem Seg.all {α : Type} (L : List α) : Seg L 0 L := ⟨[],by simp⟩
mutual
def Tr.zs : Tr -> List Int
  | .mk n ks => ((min (nodSz n ks.sz ks.len) 401 : Nat) : Int) :: ks.zs
def Trs.zs : Trs -> List Int
  | .nil => []
  | .cons t ts => t.zs ++ ts.zs
end
mutual
def Tr.es : Tr -> Nat -> List Int
  | .mk n ks,at_ => ((at_ + 1 + ks.flat.length : Nat) : Int) :: ks.es (at_ + 1)
def Trs.es : Trs -> Nat -> List Int
  | .nil,_ => []
  | .cons t ts,at_ => t.es at_ ++ ts.es (at_ + t.flat.length)
end
mutual
theorem Tr.zs_len : ∀ t : Tr,t.zs.length = t.flat.length
  | .mk n ks => by simp [Tr.zs,Tr.flat,Trs.zs_len ks]
theorem Trs.zs_len : ∀ ts : Trs,ts.zs.length = ts.flat.length
  | .nil => rfl
  | .cons t ts => by simp [Trs.zs,Trs.flat,Tr.zs_len t,Trs.zs_len ts]
end
mutual
theorem Tr.es_len : ∀ (t : Tr) (a : Nat),(t.es a).length = t.flat.length
  | .mk n ks,a => by simp [Tr.es,Tr.flat,Trs.es_len ks]
theorem Trs.es_len : ∀ (ts : Trs) (a : Nat),(ts.es a).length = ts.flat.length
  | .nil,_ => rfl
  | .cons t ts,a => by simp [Trs.es,Trs.flat,Tr.es_len t,Trs.es_len ts]
end
theorem Tr.flat_pos (t : Tr) : 0 < t.flat.length := by cases t; simp [Tr.flat]
theorem Trs.len_le : ∀ ts : Trs,ts.len <= ts.flat.length
  | .nil => Nat.le_refl _
  | .cons t ts => by
    have h1 := Trs.len_le ts
    have h2 := t.flat_pos
    simp only [Trs.len,Trs.flat,List.length_append]; omega
end Go.Proofs.Ytnleclohocdkaaa
namespace Go.V
variable {N : Nat} {S st : St} {H : List Ent}
theorem All2.at_ {α β : Type} {R : α -> β -> Prop} : ∀ {l : List α} {m : List β} {i : Nat} {b : β},All2 R l m -> m[i]? = some b -> ∃ a,l[i]? = some a /\ R a b
  | _,_,_,_, .nil,h => by simp at h
  | _,_,0,_, .cons a t,h => by simp only [List.getElem?_cons_zero,Option.some.injEq] at h; subst h; exact ⟨_,rfl,a⟩
  | _,_,i + 1,_, .cons a t,h => by simp only [List.getElem?_cons_succ] at h ⊢; exact t.at_ h
theorem All2.set {α β : Type} {R : α -> β -> Prop} {a : α} {b : β} (r : R a b) : ∀ {l : List α} {m : List β} (i : Nat),All2 R l m -> All2 R (l.set i a) (m.set i b)
  | _,_,_, .nil => .nil
  | _,_,0, .cons _ t => .cons r t
  | _,_,i + 1, .cons h t => .cons h (t.set r i)
theorem All2.setMany {R : D -> D -> Prop} : ∀ {xs ys : List D} {c d : List D} (o : Nat),All2 R xs ys -> All2 R c d -> All2 R (setMany c o xs) (setMany d o ys)
  | _,_,_,_,_, .nil,h => h
  | _,_,_,_,o, .cons r t,h => by simp only [Go.V.setMany]; exact t.setMany (o + 1) (h.set r o)
theorem All2.same {R : D -> D -> Prop} : ∀ {l : List D},(∀ d ∈ l,R d d) -> All2 R l l
  | [],_ => .nil
  | d :: l,h => .cons (h d (List.mem_cons_self ..)) (All2.same fun x hx => h x (List.mem_cons_of_mem _ hx))
theorem Has.drows {j : Nat} {x : D} {s : Nat} {ks : Nat -> Prop} {vs : List (List D)} (hH : Has N S st H) (hj : H[j]? = some (.deep ks x s vs)) : ∃ es,Rows st s x es /\ es.length = vs.length := by
  obtain ⟨⟨es,h1,h2⟩,_⟩ := (hH.ok j _ hj).1
  exact ⟨es,h1.rows,h2.len⟩
theorem Has.dset {j k ver off len s : Nat} {ks : Nat -> Prop} {vs : List (List D)} {i o : Nat} {v cs : List D} (h : Has N S st H) (hj : H[j]? = some (.deep ks (.win k ver off len s) s vs)) (hi : vs[i]? = some v) (hl : o + cs.length <= s) (hp : ∀ d ∈ cs,plainC d = true) (hw : S.flr <= N \/ refs cs = 0) :
    ∃ st',st.wr k ver (off + i * s + o) cs = some st' /\ Has N S st' (H.set j (.deep ks (.win k ver off len s) s (vs.set i (setMany v o cs)))) := by
  obtain ⟨⟨es,he1,he2⟩,he3⟩ := (h.ok j _ hj).1
  have hK := (h.ok j _ hj).2
  obtain ⟨e,hei,hev⟩ := he2.at_ hi
  have hH1 : Has N S st [.lst (.win k ver off len s) s es] := by
    refine ⟨h.ex,h.hN,h.hro,fun i e hi => ?_,fun i i' a b hii ha hb k hka hkb => ?_⟩
    · cases i with
      | zero => simp only [List.getElem?_cons_zero,Option.some.injEq] at hi; subst hi; exact ⟨he1,fun k hk => hK k (.inl hk)⟩
      | succ i => simp at hi
    · cases i with
      | zero => cases i' with
        | zero => exact hii rfl
        | succ i' => simp at hb
      | succ i => simp at ha
  obtain ⟨st',q1,q2⟩ := hH1.setElem (j := 0) at0 hei hl hw
  refine ⟨st',q1,?_⟩
  have hown := q2.own (j := 0) at0
  have hch : (∀ n,n ≠ k -> st'.bs[n]? = st.bs[n]?) /\ st.bs.length = st'.bs.length /\ st'.flr = st.flr /\ st'.ro = st.ro := by
    unfold St.wr at q1
    split at q1
    · split at q1
      · cases q1
        exact ⟨fun n hn => by simp only; rw [List.getElem?_set_ne (fun e => hn e.symm)],by simp,rfl,rfl⟩
      · cases q1
    · cases q1
  obtain ⟨c1,c2,c3,c4⟩ := hch
  have hkk := hK k (.inl (by simp only [D.ref]))
  have hne : ∀ n,ks n -> n ≠ k := fun n hn e => he3 k (by simp only [D.ref]) (e ▸ hn)
  have hmove : ∀ n,ks n -> st'.bs[n]? = st.bs[n]? := fun n hn => c1 n (hne n hn)
  refine h.upd hj (fun n hn hnot => c1 n fun e => hnot (.inl (by simp only [D.ref]; omega))) (Nat.le_of_eq c2) c3 c4 ⟨⟨_,hown,?_⟩,he3⟩ (fun n hn => .inl hn) fun n hn => ?_
  · refine All2.set ?_ i (he2.mono fun a b => All2.mono fun c d => DeepC.move hmove)
    exact (All2.same fun d hd => .plain d (hp d hd)).setMany o (hev.mono fun c d => DeepC.move hmove)
  · rw [<- c2]; exact (hK n hn).2
variable {P : Pv} {ops : Array Oper} {rest : List Oper} {fr fr' : Fr} {Q : Fr -> St -> Prop} {ty : TypeId} {pp : String} {a : Array Edge} {g : Option (Nat × Bool)} {dst : Nat}
theorem EvO.dlen {t e : TypeId} {xo : Operand} {x : D} {s j : Nat} {ks : Nat -> Prop} {vs : List (List D)} (hH : Has N S st H) (hg : wantD ops fr ⟨some dst, .call ⟨.builtin .len, #[xo], #[t]⟩,ty,pp,a,g⟩ = some true) (hx : fr.ev xo = x) (hj : H[j]? = some (.deep ks x s vs)) (ht : P.und t = some (.slice e)) (hp : fr.put dst (.int .i64 (vs.length : Nat)) = fr')
    (h : EvO P ops rest fr' st Q) : EvO P ops (⟨some dst, .call ⟨.builtin .len, #[xo], #[t]⟩,ty,pp,a,g⟩ :: rest) fr st Q := by
  obtain ⟨es,h1,h2⟩ := hH.drows hj
  exact EvO.rlen hg hx h1 ht (by rw [h2]; exact hp) h
theorem EvO.didx {t e : TypeId} {xo io : Operand} {x : D} {s i j : Nat} {kk : IntKind} {ks : Nat -> Prop} {vs : List (List D)} {fr' : D -> Fr} (hH : Has N S st H) (hg : wantD ops fr ⟨some dst, .indexAddr t xo io,ty,pp,a,g⟩ = some true) (hx : fr.ev xo = x) (hi : fr.ev io = .int kk (i : Nat)) (hj : H[j]? = some (.deep ks x s vs)) (ht : P.und t = some (.slice e)) (hs : szOf P e = some s) (hr : i < vs.length) (hp : ∀ p,fr.put dst p = fr' p)
    (h : ∀ p,EPtr x s i 0 p -> EvO P ops rest (fr' p) st Q) : EvO P ops (⟨some dst, .indexAddr t xo io,ty,pp,a,g⟩ :: rest) fr st Q := by
  obtain ⟨⟨es,he1,he2⟩,he3⟩ := (hH.ok j _ hj).1
  have hlen := he2.len
  cases he1 with
  | nul => simp at hlen; omega
  | win k ver off es c hm hl hc he =>
    refine EvO.go hg rfl (d := .ptr k ver (off + i * s)) (st1 := st) ?_ (hp _) (h _ ⟨k,ver,off,_,rfl,rfl⟩)
    simp only [opD,hx,hi,indexAddrD,ht,hs,Option.bind_some,St.mem_of hm,Option.isSome_some]
    rw [if_pos ⟨trivial,by omega,by omega,trivial⟩]; rfl
theorem EvO.dstore {t : TypeId} {ao vo : Operand} {x y v : D} {s i o j : Nat} {ks : Nat -> Prop} {vs : List (List D)} {r cs : List D} (hH : Has N S st H) (hg : wantD ops fr ⟨none, .store t ao vo,ty,pp,a,g⟩ = some true) (ha : fr.ev ao = y) (hv : fr.ev vo = v) (hR : EPtr x s i o y) (hcs : v.cells? = some cs) (hs : szOf P t = some cs.length) (hj : H[j]? = some (.deep ks x s vs)) (hr : vs[i]? = some r) (hl : o + cs.length <= s) (hq : ∀ d ∈ cs,plainC d = true) (hw : S.flr <= N \/ refs cs = 0)
    (h : ∀ st',Has N S st' (H.set j (.deep ks x s (vs.set i (setMany r o cs)))) -> EvO P ops rest fr st' Q) : EvO P ops (⟨none, .store t ao vo,ty,pp,a,g⟩ :: rest) fr st Q := by
  obtain ⟨k,ver,off,len,rfl,rfl⟩ := hR
  obtain ⟨st',h1,h2⟩ := hH.dset hj hr hl hq hw
  refine EvO.N hg rfl (d := .tup []) (st1 := st') ?_ (h _ h2)
  simp only [opD,ha,hv,storeD,hcs,hs,if_pos trivial,h1]; rfl
theorem EvC.cutW {dy : Dy} {i : Nat} {l : List Oper} {d n loc tmp st} {Q : Out -> Fr -> St -> Prop} (ws : List Nat) (F : (Nat -> D) -> Prop)
    (h1 : EvO P l.toArray l ⟨n,loc, []⟩ st fun fr' st' => ∃ f tmp,fr' = ⟨n,setW loc ws f,tmp⟩ /\ st' = st /\ F f) (h2 : ∀ f tmp,F f -> Q .next ⟨n,setW loc ws f,tmp⟩ st) (h0 : lookDy i dy = [] := by rfl) : EvC P dy (.region i l.toArray d) ⟨n,loc,tmp⟩ st Q := by
  refine EvC.reg ?_ h0
  unfold EvO at h1 ⊢
  obtain ⟨fr',st',h3,f,tmp',rfl,rfl,h4⟩ := h1
  exact ⟨_,_,h3,h2 _ _ h4⟩
theorem leafW {n : Nat} {L loc : List D} {tmp0 : List (Nat × D)} {ws : List Nat} {F : (Nat -> D) -> Prop} {st : St} (h : L = setW loc ws (fun k => nth .junk L k)) (h2 : F (fun k => nth .junk L k)) : ∃ (f : Nat -> D) (tmp : List (Nat × D)),(⟨n,L,tmp0⟩ : Fr) = ⟨n,setW loc ws f,tmp⟩ /\ st = st /\ F f := ⟨_,tmp0,by rw [<- h],rfl,h2⟩
theorem EvO.minZ {t1 t2 : TypeId} {xo yo : Operand} {x y z : Int} (hg : wantD ops fr ⟨some dst, .call ⟨.builtin .min, #[xo,yo], #[t1,t2]⟩,ty,pp,a,g⟩ = some true) (hx : fr.ev xo = .int .i64 x) (hy : fr.ev yo = .int .i64 y) (hz : min x y = z) (hp : fr.put dst (.int .i64 z) = fr') (h : EvO P ops rest fr' st Q) : EvO P ops (⟨some dst, .call ⟨.builtin .min, #[xo,yo], #[t1,t2]⟩,ty,pp,a,g⟩ :: rest) fr st Q :=
  EvO.minS (t1 := t1) (t2 := t2) hg hx hy (by rw [hz]; exact hp) h
theorem Has.leaveRwL {N : Nat} {S s0 S2 st2 : St} {H : List Ent} {x : D} {s : Nat} {es es' : List (List D)} (h : Has N S s0 (.lst x s es :: H)) (hS : S2.bs = s0.bs) (h2 : Has N S2 st2 (.lst x s es' :: H)) : Has N S ⟨st2.bs.take s0.bs.length,s0.flr,s0.ro⟩ (.lst x s es' :: H) := by
  refine h.leaveRw hS h2 fun i e hi => ?_
  cases i with
  | zero => simp only [List.getElem?_cons_zero,Option.some.injEq] at hi; subst hi; exact ⟨_,rfl,fun k hk => hk⟩
  | succ i => exact ⟨e,hi,fun k hk => hk⟩
theorem Has.leaveRwD {N : Nat} {S s0 S2 st2 : St} {H : List Ent} {k : Nat} {b b' : Box} {ks : Nat -> Prop} {x : D} {s : Nat} {vs vs' : List (List D)} (h : Has N S s0 (.box k b :: .deep ks x s vs :: H)) (hS : S2.bs = s0.bs) (h2 : Has N S2 st2 (.box k b' :: .deep ks x s vs' :: H)) : Has N S ⟨st2.bs.take s0.bs.length,s0.flr,s0.ro⟩ (.box k b' :: .deep ks x s vs' :: H) := by
  refine h.leaveRw hS h2 fun i e hi => ?_
  match i with
  | 0 => simp only [List.getElem?_cons_zero,Option.some.injEq] at hi; subst hi; exact ⟨_,rfl,fun k hk => hk⟩
  | 1 => simp only [List.getElem?_cons_succ,List.getElem?_cons_zero,Option.some.injEq] at hi; subst hi; exact ⟨_,rfl,fun k hk => hk⟩
  | i + 2 => exact ⟨e,hi,fun k hk => hk⟩
theorem Has.rot5 {N : Nat} {S st : St} {H : List Ent} {a b c d e : Ent} (h : Has N S st (a :: b :: c :: d :: e :: H)) : Has N S st (b :: c :: d :: e :: a :: H) := by
  refine h.sub (fun i => if i = 4 then 0 else if i < 4 then i + 1 else i) (fun i j hij => ?_) (fun i x hi => ?_)
  · try simp only at hij
    split at hij <;> split at hij <;> (try split at hij) <;> (try split at hij) <;> omega
  · match i,hi with
    | 0,hi => exact hi
    | 1,hi => exact hi
    | 2,hi => exact hi
    | 3,hi => exact hi
    | 4,hi => exact hi
    | i + 5,hi =>
      have h1 : ¬ (i + 5 = 4) := by omega
      have h2 : ¬ (i + 5 < 4) := by omega
      simp only [if_neg h1,if_neg h2]
      exact hi
theorem Has.resCellTT {fr : Fr} {a k ver off j u u2 : Nat} {t : TypeId} {ar : Bool} {c : List D} {d e e2 : D} (hH : Has N S st H) (ha : fr.get a = .ptr k ver off) (hj : H[j]? = some (.box k (.mem ver ar c))) (hd : takeD P t (c.drop off) = some d) (he : fr.get u = e) (he2 : fr.get u2 = e2) : resD P fr st [.cell a t, .tmp u, .tmp u2] = some [d,e,e2] := by
  simp only [resD,loadD,ha,St.mem_of (hH.at hj),Option.bind_some,hd,Option.map_some,he,he2]
theorem EvC.merge3 {dy : Dy} {c1 c2 : Code} {fr : Fr} {st : St} {Q : Out -> Fr -> St -> Prop} (M : Fr -> St -> Prop) (h1 : EvC P dy c1 fr st (SeqQ P dy c2 (MergeQ M Q))) (h2 : ∀ fr' st',M fr' st' -> Q .next fr' st') : EvC P dy c1 fr st (SeqQ P dy c2 Q) :=
  h1.mono fun o fr' st' h => by
    cases o with
    | next => exact EvC.merge M h h2
    | exit i => exact h
    | ret => exact h
end Go.V
namespace Go.Proofs.Ytnleclohocdkaaa
open Go.V Go
def ixF_Pd (fr : Go.V.Fr) (k : Nat) : Go.V.D := Go.V.nth .junk fr.loc k
theorem freeze_kn {st : St} {L n : Nat} {kn : Bool} {k ver off len s : Nat} : freezeD st L kn n (.win k ver off len s) = freezeD st L false n (.win k ver off len s) := by
 cases n <;> rfl
theorem frz_range (l : List Rg) : (l.map rangeC).map (·.map frzC) = l.map rangeC := by
 rw [List.map_map]; rfl
theorem tell_range (l : List Rg) : ∀ e ∈ l.map rangeC, ∀ d ∈ e,tellC d = true := by
 intro e he d hd;obtain ⟨x,_,rfl⟩ := List.mem_map.1 he;simp only [rangeC,List.mem_cons,List.not_mem_nil,or_false] at hd
 rcases hd with rfl | rfl <;> rfl
theorem has_freezeR {N L j : Nat} {S st : St} {H : List Ent} {x : D} {l : List Rg} (hH : Has N S st H) (hj : H[j]? = some (.lst x 2 (l.map rangeC))) (hx : ∀ k,x.ref = k + 1 -> L <= k) {n : Nat} (hn : 3 <= n) : freezeD st L false n x = some (rangesV l) := by
 rw [hH.freezeT hj hx (tell_range l) hn,frz_range,rangesV_el]
def PartQ (gs : List (Nat × Nat)) (s s' : Prs) (d1 : D) (b : Bool) : Prop :=
 PartP gs s s' d1 b \/ (s' = s /\ d1 = .nul /\ b = false)
theorem part_ev {N k : Nat} {S s0 : St} {H : List Ent} {gs : List (Nat × Nat)} {plD : D} {pls : List Int} {s : Prs} (hok : PrsOk gs pls) (he : s.e = 0) (hi : s.i < gs.length) (hH : Has N S s0 (.box k (.mem 0 false (prsC gs plD s)) :: .lst plD 1 (pls.map intC) :: H)) :
  ∃ d st',Ev pv 147 [.ptr k 0 0] s0 d st' /\ ∃ (d1 : D) (b : Bool) (s' : Prs),d = .tup [d1, .bool b] /\ PartQ gs s s' d1 b /\ Has N S st' (.box k (.mem 0 false (prsC gs plD s')) :: .lst plD 1 (pls.map intC) :: H) := by
 have hgl := hok.gl;have hpl := hok.pl;refine Ev.mkE rfl fi147 rfl rfl rfl ?_;refine zE ?_;have hH0 := hH;have hH := hH.enterRw;have hS2 : (enterSt .rw s0).bs = s0.bs := rfl;generalize enterSt .rw s0 = S2 at *;have hgr : Arg N S2 2 (gotsD gs) (gs.map gotC) := Arg.pure (fun st => gots_rows st gs)
 obtain ⟨g,hg⟩ : ∃ g,gs[s.i]? = some g := ⟨gs[s.i]'hi,List.getElem?_eq_getElem _⟩
 have hr1 : (gs.map gotC)[s.i]? = some (gotC g) := by rw [List.getElem?_map,hg]; rfl
 refine zQ 13 ?_;obtain ⟨_,st,hev,rfl,hH⟩ := bad_ev (s := s) s.i hi hH;refine qv hev ?_;refine zQ 1 ?_;refine qc (fun hb => ?_) (fun hb => ?_) <;> try simp only [cs] at hb
 ·refine zQ 7 ?_;obtain ⟨_,st,hev,rfl,hH⟩ := wrong_ev (s := s) s.i 4 (by omega) hH;refine qv hev ?_;refine zQ 6 ?_;obtain ⟨h1,h2,h3,h4⟩ := wrongS_e (pls := pls) (s := s) (i := s.i) (e := 4) he (by decide);refine EvC.ret ⟨rx,_,_,_,rfl,leaveD_rw (rfl),?_⟩;exact ⟨_,_,_,rfl, .inl ⟨h3,h4,by rw [h2]; exact Nat.le_refl _,by rw [h2]; omega, .inl rfl, .inl h1⟩,hH0.leaveRw1 hS2 hH⟩
 ·refine zQ 11 ?_;refine qr fun p25 hp25 => ?_;refine qf (fo := 0) fun p26 hp26 => ?_;refine zQ 13 ?_;refine zI (fun q1 => ?_) fun q1 => ?_
  ·refine zQ 3 ?_;obtain ⟨_,st,hev,d1,b,s',rfl,hP,hH⟩ := sign_ev (s := s) hok he hi hH;refine qv hev ?_;refine zQ 5 ?_
   rcases hP.2.2.2.2.1 with rfl | ⟨a,rfl,_⟩
   ·refine EvC.ret ⟨rx,_,_,_,rfl,leaveD_rw (rfl),?_⟩;exact ⟨_,_,_,rfl, .inl hP,hH0.leaveRw1 hS2 hH⟩
   ·refine EvC.ret ⟨rx,_,_,_,rfl,leaveD_rw (rfl),?_⟩;exact ⟨_,_,_,rfl, .inl hP,hH0.leaveRw1 hS2 hH⟩
  ·refine zQ 6 ?_
   by_cases q91 : ((g.1 : Nat) : Int) = 91
   ·refine qD rfl (by simp [q91]) ?_;refine zQ 1 ?_;refine qD rfl (by simp [q91]) ?_;refine zQ 5 ?_;refine EvC.ret ⟨rx,_,_,_,rfl,leaveD_rw (rfl),?_⟩;exact ⟨_,_,_,rfl, .inr ⟨rfl,rfl,rfl⟩,hH0.leaveRw1 hS2 hH⟩
   refine qE rfl (by simp [q91]) ?_;refine zQ 5 ?_
   by_cases q93 : ((g.1 : Nat) : Int) = 93
   ·refine qD rfl (by simp [q93]) ?_;refine zQ 1 ?_;refine qD rfl (by simp [q93]) ?_;refine zQ 5 ?_;refine EvC.ret ⟨rx,_,_,_,rfl,leaveD_rw (rfl),?_⟩;exact ⟨_,_,_,rfl, .inr ⟨rfl,rfl,rfl⟩,hH0.leaveRw1 hS2 hH⟩
   refine qE rfl (by simp [q93]) ?_;refine zQ 4 ?_
   by_cases q45 : ((g.1 : Nat) : Int) = 45
   ·refine qD rfl (by simp [q45]) ?_;refine zQ 5 ?_;refine EvC.ret ⟨rx,_,_,_,rfl,leaveD_rw (rfl),?_⟩;exact ⟨_,_,_,rfl, .inr ⟨rfl,rfl,rfl⟩,hH0.leaveRw1 hS2 hH⟩
   refine qE rfl (by simp [q45]) ?_;refine zQ 9 ?_;refine qT hH at0 fun st hH => ?_;dsimp only [u2,u1,u3,u4,setMany,u5,u6,D.cells,Nat.reduceAdd,prsC,gotC,intC,rangeC] at hH;refine zQ 5 ?_;refine EvO.ones (qs := [(0,_),(1,_)]) rfl rfl rfl rfl ⟨rfl,(ev rfl),(by rfl),rfl,(ev rfl),(by rfl),trivial⟩ (by intro q hq; simp only [List.mem_cons,List.not_mem_nil,or_false] at hq; rcases hq with rfl | rfl <;> exact ⟨rfl,by exact Nat.le_of_ble_eq_true rfl⟩) (by show List.foldl _ [_,_] _ = _; dsimp only [List.foldl_cons,List.foldl_nil,u2,u1] <;> rfl) (put_T rfl _) ?_;refine qh (s := 2) (vs := [_]) hH fun k39 st hk39 hH => ?_;refine zQ 3 ?_;have hH : Has N S2 st (.lst (.win k39 0 0 1 2) 2 (([((g.1 : Nat),(g.1 : Nat))] : List Rg).map rangeC) :: .box k (.mem 0 false (prsC gs plD { s with i := s.i + 1 })) :: .lst plD 1 (pls.map intC) :: H) := hH;have hfz := has_freezeR hH at0 (L := s0.bs.length) (n := 15) (fun k hk => by simp only [D.ref] at hk; rw [<- hS2]; omega) (by decide)
   have hfz2 : freezeD st s0.bs.length true 16 (tupD [.win k39 0 0 1 2, .bool true]) = some (.tup [rangesV [(((g.1 : Nat) : Int),((g.1 : Nat) : Int))], .bool true]) := by
    show (mapO (freezeD st s0.bs.length true 15) [.win k39 0 0 1 2, .bool true]).map D.tup = _;simp only [mapO,freeze_kn,hfz]; rfl
   refine EvC.ret ⟨rx,_,_,_,rfl,leaveD_rw hfz2,⟨_,_, { s with i := s.i + 1 },rfl, .inl ⟨rfl,rfl,?_,?_, .inr ⟨_,rfl,by simp⟩, .inr ⟨he,?_,_,rfl,?_,?_⟩⟩,hH0.leaveRw1 hS2 (hH.drop 1)⟩⟩
   ·show s.i <= s.i + 1; omega
   ·show s.i + 1 <= _; omega
   ·show s.i < s.i + 1; omega
   ·simp
   ·simp
def ItemP (gs : List (Nat × Nat)) (s s' : Prs) (d : D) : Prop :=
 s'.o = s.o /\ s'.g = s.g /\ s.i <= s'.i /\ s'.i <= gs.length /\ ∃ a : List Rg,d = rangesV a /\ a.length <= 8 /\ (s'.e ≠ 0 \/ s'.e = 0 /\ s.i < s'.i)
theorem skip_i {gs : List (Nat × Nat)} {s : Prs} {r : Int} : (skipS gs s r).o = s.o /\ (skipS gs s r).g = s.g /\ (skipS gs s r).e = s.e /\ s.i <= (skipS gs s r).i /\ (s.i <= gs.length -> (skipS gs s r).i <= gs.length) := by
 unfold skipS
 split
 ·rename_i h;have := isS_lt h;exact ⟨rfl,rfl,rfl,by show s.i <= s.i + 1; omega,fun _ => by show s.i + 1 <= _; omega⟩
 ·exact ⟨rfl,rfl,rfl,Nat.le_refl _,fun h => h⟩
theorem item_ev {N k : Nat} {S s0 : St} {H : List Ent} {gs : List (Nat × Nat)} {plD : D} {pls : List Int} {s : Prs} (hok : PrsOk gs pls) (he : s.e = 0) (hi : s.i < gs.length) (hH : Has N S s0 (.box k (.mem 0 false (prsC gs plD s)) :: .lst plD 1 (pls.map intC) :: H)) :
  ∃ d st',Ev pv 131 [.ptr k 0 0] s0 d st' /\ ∃ (s' : Prs),ItemP gs s s' d /\ Has N S st' (.box k (.mem 0 false (prsC gs plD s')) :: .lst plD 1 (pls.map intC) :: H) := by
 have hgl := hok.gl;have hpl := hok.pl;refine Ev.mkE rfl fi131 rfl rfl rfl ?_;refine zE ?_;have hH0 := hH;have hH := hH.enterRw;have hS2 : (enterSt .rw s0).bs = s0.bs := rfl;generalize enterSt .rw s0 = S2 at *;have hgr : Arg N S2 2 (gotsD gs) (gs.map gotC) := Arg.pure (fun st => gots_rows st gs);refine zQ 15 ?_;obtain ⟨_,st,hev,d1,b,s1,rfl,hP,hH⟩ := part_ev (s := s) hok he hi hH;refine qv hev ?_;refine zQ 15 ?_
 rcases hP with hP | ⟨e1,rfl,rfl⟩
 ·obtain ⟨p1,p2,p3,p4,p5,p6⟩ := hP
  rcases p6 with p6 | ⟨p6,p7,a,rfl,p8,p9⟩
  ·refine qD rfl (by simp [p6]) ?_;refine zQ 4 ?_;refine EvC.ret ⟨rx,_,_,_,rfl,leaveD_rw (rfl),?_⟩;exact ⟨s1,⟨p1,p2,p3,p4, [],rfl,by simp, .inl p6⟩,hH0.leaveRw1 hS2 hH⟩
  ·obtain ⟨q,a',rfl⟩ : ∃ q a',a = q :: a' := List.exists_cons_of_ne_nil p9;refine qE rfl (by simp [p6]) ?_;refine zQ 5 ?_;refine EvO.go (d := .bool false) (st1 := _) rfl rfl rfl (put_T rfl _) ?_;refine zQ 3 ?_;obtain ⟨k1,k2,k3,k4,k5⟩ := skip_i (gs := gs) (s := s1) (r := 45);have k5 := k5 p4;refine zQ 4 ?_;obtain ⟨_,st,hev,rfl,hH⟩ := skip_ev (s := s1) (by omega) 45 hH;refine qv hev ?_;refine zQ 2 ?_;generalize skipS gs s1 45 = s2 at *
   cases hb : isS gs s1.i 45 with
   | false =>
    refine zQ 6 ?_;refine EvC.ret ⟨rx,_,_,_,rfl,leaveD_rw (rfl),?_⟩;exact ⟨s2,⟨k1.trans p1,k2.trans p2,by omega,k5,q :: a',rfl,p8, .inr ⟨k3.trans p6,by omega⟩⟩,hH0.leaveRw1 hS2 hH⟩
   | true =>
    refine zQ 21 ?_;refine qn ?_;simp only [List.length_map];refine zQ 2 ?_;refine EvC.merge (fun fr st => ∃ (d2 : D) (two : Bool) (s3 : Prs) (tmp : List (Nat × D)),fr = ⟨8, [.ptr k 0 0,ixF_Pd fr 1,ixF_Pd fr 2, .int .i64 (s.i : Nat),rangesV (q :: a'), .bool b,d2, .bool two],tmp⟩ /\ Has N S2 st (.box k (.mem 0 false (prsC gs plD s3)) :: .lst plD 1 (pls.map intC) :: H) /\ (s3.o = s.o) /\ (s3.g = s.g) /\ (s2.i <= s3.i) /\ (s3.i <= gs.length) /\ (s3.e ≠ 0 \/ s3.e = 0 /\ (two = false \/ ∃ a2 : List Rg,d2 = rangesV a2 /\ a2 ≠ []))) ?_ ?_
    ·refine zP (fun hlt => ?_) fun hlt => ?_
     ·refine zQ 2 ?_;obtain ⟨_,st,hev,d2,two,s3,rfl,hP2,hH⟩ := part_ev (s := s2) hok (k3.trans p6) (by omega) hH;refine qv hev ?_;refine zQ 6 ?_
      rcases hP2 with ⟨r1,r2,r3,r4,r5,r6⟩ | ⟨e1,rfl,rfl⟩
      ·refine ⟨d2,two,s3,_,rfl,hH,r1.trans (k1.trans p1),r2.trans (k2.trans p2),r3,r4,?_⟩
       rcases r6 with r6 | ⟨r6,r7,a2,rfl,r8,r9⟩
       ·exact .inl r6
       ·refine .inr ⟨r6,?_⟩
        cases two with
        | false => exact .inl rfl
        | true => exact .inr ⟨a2,rfl,r9⟩
      ·exact ⟨.nul,false,s3,_,rfl,hH,by rw [e1]; exact k1.trans p1,by rw [e1]; exact k2.trans p2,by rw [e1]; exact Nat.le_refl _,by rw [e1]; exact k5, .inr ⟨by rw [e1]; exact k3.trans p6, .inl rfl⟩⟩
     ·refine zQ 1 ?_;exact ⟨.nul,false,s2,_,rfl,hH,k1.trans p1,k2.trans p2,Nat.le_refl _,k5, .inr ⟨k3.trans p6, .inl rfl⟩⟩
    ·rintro fr st ⟨d2,two,s3,tmp,hfr,hH,h1,h2,h3,h4,h5⟩;rw [hfr];clear hfr;generalize ixF_Pd fr = ee;clear fr
     rcases h5 with h5 | ⟨h5,h6⟩
     ·have hg5 : (s3.e == 0) = false := by simpa using h5
      refine zQ 39 ?_;refine qD rfl (by simp [h5]) ?_;refine zQ 4 ?_;refine EvC.ret ⟨rx,_,_,_,rfl,leaveD_rw (rfl),?_⟩;exact ⟨s3,⟨h1,h2,by omega,h4, [],rfl,by simp, .inl h5⟩,hH0.leaveRw1 hS2 hH⟩
     ·have hg5 : (s3.e == 0) = true := by simpa using h5
      cases b with
      | false =>
       have hg8 : (!false) = true := rfl;refine zQ 14 ?_;refine EvO.pickT (wantD_is rfl rfl rfl hg5) rfl hg8 (put_T rfl _) ?_;refine zQ 17 ?_;obtain ⟨_,st,hev,rfl,hH⟩ := wrong_ev (s := s3) s.i 4 (by omega) hH;refine qv hev ?_;refine zQ 1 ?_;obtain ⟨w1,w2,w3,w4⟩ := wrongS_e (pls := pls) (s := s3) (i := s.i) (e := 4) h5 (by decide);generalize wrongS pls s3 s.i 4 = s4 at *;refine zQ 9 ?_;refine qD rfl (by simp [w1]) ?_;refine zQ 4 ?_;refine EvC.ret ⟨rx,_,_,_,rfl,leaveD_rw (rfl),?_⟩;exact ⟨s4,⟨w3.trans h1,w4.trans h2,by omega,by omega, [],rfl,by simp, .inl w1⟩,hH0.leaveRw1 hS2 hH⟩
      | true =>
       have hg8 : (!true) = false := rfl
       cases two with
       | false =>
        have hg12 : (!false) = true := rfl;refine zQ 14 ?_;refine EvO.pickF (wantD_is rfl rfl rfl hg5) rfl hg8 (put_T rfl _) ?_;refine zQ 10 ?_;refine EvO.pickT (wantD_is rfl rfl rfl hg5) rfl hg12 (put_T rfl _) ?_;refine zQ 6 ?_;obtain ⟨_,st,hev,rfl,hH⟩ := wrong_ev (s := s3) s.i 4 (by omega) hH;refine qv hev ?_;refine zQ 1 ?_;obtain ⟨w1,w2,w3,w4⟩ := wrongS_e (pls := pls) (s := s3) (i := s.i) (e := 4) h5 (by decide);generalize wrongS pls s3 s.i 4 = s4 at *;refine zQ 9 ?_;refine qD rfl (by simp [w1]) ?_;refine zQ 4 ?_;refine EvC.ret ⟨rx,_,_,_,rfl,leaveD_rw (rfl),?_⟩;exact ⟨s4,⟨w3.trans h1,w4.trans h2,by omega,by omega, [],rfl,by simp, .inl w1⟩,hH0.leaveRw1 hS2 hH⟩
       | true =>
        have hg12 : (!true) = false := rfl
        obtain ⟨a2,rfl,h7⟩ : ∃ a2 : List Rg,d2 = rangesV a2 /\ a2 ≠ [] := by
         rcases h6 with h6 | h6
         ·cases h6
         ·exact h6
        obtain ⟨q2,a2',rfl⟩ : ∃ q a',a2 = q :: a' := List.exists_cons_of_ne_nil h7;have hra := (ranges_sl (q :: a')).arg N S2;have hra2 := (ranges_sl (q2 :: a2')).arg N S2;have hr0 : ((q :: a').map rangeC)[0]? = some (rangeC q) := rfl;have hr1 : ((q2 :: a2').map rangeC)[0]? = some (rangeC q2) := rfl;refine zQ 14 ?_;refine EvO.pickF (wantD_is rfl rfl rfl hg5) rfl hg8 (put_T rfl _) ?_;refine zQ 2 ?_;refine qr (fun p60 hp60 => ?_) (hg := wi hg12);refine qf (fo := 0) (fun p61 hp61 => ?_) (hg := wi hg12);refine zQ 2 ?_;refine qr (fun p64 hp64 => ?_) (hg := wi hg12);refine qf (fo := 0) (fun p65 hp65 => ?_) (hg := wi hg12);refine zQ 2 ?_;refine EvO.pickF (wantD_is rfl rfl rfl hg5) rfl hg12 (put_T rfl _) ?_;refine zQ 2 ?_;refine zP (fun hgt => ?_) fun hgt => ?_
        ·refine zQ 3 ?_;obtain ⟨_,st,hev,rfl,hH⟩ := wrong_ev (s := s3) s.i 4 (by omega) hH;refine qv hev ?_;refine zQ 1 ?_;obtain ⟨w1,w2,w3,w4⟩ := wrongS_e (pls := pls) (s := s3) (i := s.i) (e := 4) h5 (by decide);generalize wrongS pls s3 s.i 4 = s4 at *;refine zQ 9 ?_;refine qD rfl (by simp [w1]) ?_;refine zQ 4 ?_;refine EvC.ret ⟨rx,_,_,_,rfl,leaveD_rw (rfl),?_⟩;exact ⟨s4,⟨w3.trans h1,w4.trans h2,by omega,by omega, [],rfl,by simp, .inl w1⟩,hH0.leaveRw1 hS2 hH⟩
        ·refine zQ 10 ?_;refine qE rfl (by simp [h5]) ?_;refine zQ 4 ?_;refine qr fun p79 hp79 => ?_;refine qf (fo := 0) fun p80 hp80 => ?_;refine zQ 2 ?_;refine qr fun p83 hp83 => ?_;refine qf (fo := 0) fun p84 hp84 => ?_;refine qR ?_;refine EvO.ones (qs := [(0,_),(1,_)]) rfl rfl rfl rfl ⟨rfl,(ev rfl),(by rfl),rfl,(ev rfl),(by rfl),trivial⟩ (by intro q hq; simp only [List.mem_cons,List.not_mem_nil,or_false] at hq; rcases hq with rfl | rfl <;> exact ⟨rfl,by exact Nat.le_of_ble_eq_true rfl⟩) (by show List.foldl _ [_,_] _ = _; dsimp only [List.foldl_cons,List.foldl_nil,u2,u1] <;> rfl) (put_T rfl _) ?_;refine qh (s := 2) (vs := [_]) hH fun k87 st hk87 hH => ?_;dsimp only [u2,u1,u3,u4,setMany,u5,u6,D.cells,Nat.reduceAdd,prsC,gotC,intC,rangeC] at hH;refine zQ 2 ?_;have hH : Has N S2 st (.lst (.win k87 0 0 1 2) 2 (([(q.1,q2.1)] : List Rg).map rangeC) :: .box k (.mem 0 false (prsC gs plD s3)) :: .lst plD 1 (pls.map intC) :: H) := hH;have hfz := has_freezeR hH at0 (L := s0.bs.length) (n := 16) (fun k hk => by simp only [D.ref] at hk; rw [<- hS2]; omega) (by decide);refine EvC.ret ⟨rx,_,_,_,rfl,leaveD_rw hfz,⟨s3,⟨h1,h2,by omega,h4, [(q.1,q2.1)],rfl,by simp, .inr ⟨h5,by omega⟩⟩,hH0.leaveRw1 hS2 (hH.drop 1)⟩⟩
 ·have e2 : s1.e = 0 := by rw [e1]; exact he
  have e3 : s1.i = s.i /\ s1.o = s.o /\ s1.g = s.g := by rw [e1]; exact ⟨rfl,rfl,rfl⟩
  clear e1;refine qE rfl (by simp [e2]) ?_;refine zQ 5 ?_;refine EvO.go (d := .bool true) (st1 := _) rfl rfl rfl (put_T rfl _) ?_;refine zQ 6 ?_;obtain ⟨_,st,hev,rfl,hH⟩ := wrong_ev (s := s1) s.i 4 (by omega) hH;refine qv hev ?_;refine zQ 1 ?_;obtain ⟨w1,w2,w3,w4⟩ := wrongS_e (pls := pls) (s := s1) (i := s.i) (e := 4) e2 (by decide);refine zQ 4 ?_;refine EvC.ret ⟨rx,_,_,_,rfl,leaveD_rw (rfl),?_⟩;exact ⟨_,⟨by omega,by omega,by omega,by omega, [],rfl,by simp, .inl w1⟩,hH0.leaveRw1 hS2 hH⟩
end Go.Proofs.Ytnleclohocdkaaa
namespace Go.Proofs.Ytnleclohocdkaaa
open Go.V Go
def ixF_Pe (fr : Go.V.Fr) (k : Nat) : Go.V.D := Go.V.nth .junk fr.loc k
def NdV (n : Nod) : Prop := n.rd = rangesV n.rs /\ n.rs.length <= 1048576 /\ n.kids <= 1048576
def mkNd (op mn mx : Int) (lz : Bool) (cap kids : Int) (a : List Rg) : Nod := ⟨op,rangesV a,a,mn,mx,lz,cap,kids⟩
def nlD (l : List Nod) : D := .sl ((l.map nodC).map (elD 7))
theorem nod_len (l : List Nod) : ∀ e ∈ l.map nodC,e.length = 7 := by
 intro e he; obtain ⟨x,_,rfl⟩ := List.mem_map.1 he; rfl
theorem nod_plain {l : List Nod} (h : ∀ n ∈ l,NdV n) : ∀ e ∈ l.map nodC, ∀ d ∈ e,plainC d = true := by
 intro e he d hd;obtain ⟨n,hn,rfl⟩ := List.mem_map.1 he;have hr := (h n hn).1;simp only [nodC,hr,List.mem_cons,List.not_mem_nil,or_false] at hd
 rcases hd with rfl | rfl | rfl | rfl | rfl | rfl | rfl <;> rfl
theorem nl_sl {l : List Nod} (h : ∀ n ∈ l,NdV n) : SlD (nlD l) 7 (l.map nodC) := SlD.frozen (nod_len l) (nod_plain h)
theorem nl_ok {l : List Nod} (h : ∀ n ∈ l,NdV n) (hl : l.length <= 1048576) : (⟨nlD l,l⟩ : Nl).ok := by
 refine ⟨nl_sl h,fun n hn => ?_,hl⟩;obtain ⟨h1,h2,h3⟩ := h n hn;exact ⟨by rw [h1]; exact ranges_sl _,h2,by omega⟩
theorem nod_frz {l : List Nod} (h : ∀ n ∈ l,NdV n) : (l.map nodC).map (·.map frzC) = l.map nodC := by
 rw [List.map_map];refine List.map_congr_left fun n hn => ?_;have hr := (h n hn).1;show (nodC n).map frzC = nodC n;unfold nodC;rw [hr]; rfl
theorem nod_tell {l : List Nod} (h : ∀ n ∈ l,NdV n) : ∀ e ∈ l.map nodC, ∀ d ∈ e,tellC d = true := by
 intro e he d hd;have := nod_plain h e he d hd
 cases d <;> first | rfl | exact this
theorem has_freezeN {N L j : Nat} {S st : St} {H : List Ent} {x : D} {es : List (List D)} {l : List Nod} (hH : Has N S st H) (hj : H[j]? = some (.lst x 7 es)) (he : es.map (·.map frzC) = l.map nodC) (ht : ∀ e ∈ es, ∀ d ∈ e,tellC d = true) (hx : ∀ k,x.ref = k + 1 -> L <= k) {n : Nat} (hn : 3 <= n) : freezeD st L false n x = some (nlD l) := by
 rw [hH.freezeT hj hx ht hn,he]; rfl
theorem has_freeze1 {N L j : Nat} {S st : St} {H : List Ent} {x w : D} {op mn mx cap kids : Int} {lz : Bool} {a : List Rg} (hH : Has N S st H) (hj : H[j]? = some (.lst x 7 [[.int .i64 op,w, .int .i64 mn, .int .i64 mx, .bool lz, .int .i64 cap, .int .i64 kids]])) (hw : w = rangesV a \/ w = .nul /\ a = []) (hx : ∀ k,x.ref = k + 1 -> L <= k) : freezeD st L false 16 x = some (nlD [mkNd op mn mx lz cap kids a]) := by
 refine has_freezeN hH hj ?_ (fun e he d hd => ?_) hx (by decide)
 ·rcases hw with rfl | ⟨rfl,rfl⟩ <;> rfl
 ·simp only [List.mem_cons,List.not_mem_nil,or_false] at he;subst he;simp only [List.mem_cons,List.not_mem_nil,or_false] at hd
  rcases hw with rfl | ⟨rfl,rfl⟩ <;> rcases hd with rfl | rfl | rfl | rfl | rfl | rfl | rfl <;> rfl
theorem mk_v {op mn mx cap kids : Int} {lz : Bool} {a : List Rg} (h : a.length <= 1048576) (hk : kids <= 1048576) : ∀ n ∈ [mkNd op mn mx lz cap kids a],NdV n := by
 intro n hn;simp only [List.mem_cons,List.not_mem_nil,or_false] at hn;subst hn;exact ⟨rfl,h,hk⟩
def NodesQ (gs : List (Nat × Nat)) (s s' : Prs) (d : D) : Prop :=
 s'.o = s.o /\ s'.g <= 4 /\ s.i <= s'.i /\ s'.i <= gs.length /\ ∃ l : List Nod,d = nlD l /\ (∀ n ∈ l,NdV n) /\ l.length <= 4 * (s'.i - s.i) + 1
def NodesP (gs : List (Nat × Nat)) (s s' : Prs) (d : D) (c : Nat) : Prop :=
 s'.o = s.o /\ s'.g <= 4 /\ s.i <= s'.i /\ s'.i <= gs.length /\ ∃ l : List Nod,d = nlD l /\ (∀ n ∈ l,NdV n) /\ l.length <= 4 * (s'.i - s.i) + 1 /\ (s'.e ≠ 0 \/ s'.e = 0 /\ l.length + c <= 4 * (s'.i - s.i))
theorem nodes_nil {gs : List (Nat × Nat)} {s s' : Prs} {c : Nat} (h1 : s'.o = s.o) (h2 : s'.g <= 4) (h3 : s.i <= s'.i) (h4 : s'.i <= gs.length) (h5 : s'.e ≠ 0) : NodesP gs s s' (.sl []) c :=
 ⟨h1,h2,h3,h4, [],rfl,fun n hn => (by cases hn),by simp, .inl h5⟩
theorem class_ev {N k : Nat} {S s0 : St} {H : List Ent} {gs : List (Nat × Nat)} {plD : D} {pls : List Int} {s : Prs} (hok : PrsOk gs pls) (he : s.e = 0) (hi : s.i < gs.length) (hg : s.g <= 4) (hH : Has N S s0 (.box k (.mem 0 false (prsC gs plD s)) :: .lst plD 1 (pls.map intC) :: H)) :
  ∃ d st',Ev pv 122 [.ptr k 0 0] s0 d st' /\ ∃ (s' : Prs),NodesP gs s s' d 2 /\ Has N S st' (.box k (.mem 0 false (prsC gs plD s')) :: .lst plD 1 (pls.map intC) :: H) := by
 have hgl := hok.gl;have hpl := hok.pl;refine Ev.mkE rfl fi122 rfl rfl rfl ?_;refine zE ?_;have hH0 := hH;have hH := hH.enterRw;have hS2 : (enterSt .rw s0).bs = s0.bs := rfl;generalize enterSt .rw s0 = S2 at *;have hgr : Arg N S2 2 (gotsD gs) (gs.map gotC) := Arg.pure (fun st => gots_rows st gs);refine zQ 21 ?_;refine qT hH at0 fun st hH => ?_;dsimp only [u2,u1,u3,u4,setMany,u5,u6,D.cells,Nat.reduceAdd,prsC,gotC,intC,rangeC] at hH;refine zQ 1 ?_;have hH : Has N S2 st (.box k (.mem 0 false (prsC gs plD { s with i := s.i + 1 })) :: .lst plD 1 (pls.map intC) :: H) := hH;obtain ⟨k1,k2,k3,k4,k5⟩ := skip_i (gs := gs) (s := { s with i := s.i + 1 }) (r := 94);have k5 := k5 (by show s.i + 1 <= _; omega);simp only at k1 k2 k3 k4;refine zQ 3 ?_;obtain ⟨_,st,hev,rfl,hH⟩ := skip_ev (s := { s with i := s.i + 1 }) (by omega) 94 hH;refine qv hev ?_;refine zQ 2 ?_;generalize skipS gs { s with i := s.i + 1 } 94 = s1 at *;generalize isS gs ({ s with i := s.i + 1 } : Prs).i 94 = nt at *;refine zQ 8 ?_
 have hH : Has N S2 st (.box k (.mem 0 false (prsC gs plD s1)) :: .lst plD 1 (pls.map intC) :: .lst .nul 2 (([] : List Rg).map rangeC) :: H) := ((hH.nulE 2).front at1 |>.front at2 |> fun h => (h.front at1))
 refine zQ 2 ?_;refine EvC.loop (fun mm fr st => ∃ (s1 : Prs) (ld : D) (lr : List Rg) (nn : Bool),fr.clean = ⟨7, [.ptr k 0 0,ixF_Pe fr 1,ixF_Pe fr 2, .int .i64 (s.i : Nat), .bool nt,ld, .bool nn], []⟩ /\ Has N S2 st (.box k (.mem 0 false (prsC gs plD s1)) :: .lst plD 1 (pls.map intC) :: .lst ld 2 (lr.map rangeC) :: H) /\ (s1.o = s.o) /\ (s1.g = s.g) /\ (s.i < s1.i) /\ (s1.i <= gs.length) /\ (lr.length <= 8 * s1.i + 8) /\ (s1.e = 0 -> lr.length <= 8 * s1.i) /\ (gs.length - s1.i + (if s1.e = 0 then 1 else 0) <= mm)) (gs.length + 1) ?_ ?_
 ·exact ⟨s1, .nul, [],true,rfl,hH,k1,k2,by omega,k5,by simp,fun _ => by simp,by split <;> omega⟩
 rintro mm fr st ⟨s1,ld,lr,nn,hfr,hH,h1,h2,h3,h4,h5,h6,hmm⟩;rw [hfr];clear hfr;generalize ixF_Pe fr = ee;clear fr
 by_cases he1 : s1.e = 0
 ·rw [if_pos he1] at hmm;have h6 := h6 he1;have hg5 : (s1.e == 0) = true := by simpa using he1
  refine zQ 10 ?_;obtain ⟨_,st,hev,rfl,hH⟩ := is_ev (s := s1) (by omega) 93 hH;refine qv hev ?_ (hg := wi hg5);refine zQ 3 ?_
  cases hb : isS gs s1.i 93 with
  | true =>
   have hlt := isS_lt hb;refine zQ 11 ?_;refine qE rfl (by simp [he1]) ?_;refine zQ 6 ?_
   cases nn with
   | true =>
    refine zQ 5 ?_;obtain ⟨_,st,hev,rfl,hH⟩ := wrong_ev (s := s1) s.i 4 (by omega) hH;refine qv hev ?_;refine zQ 2 ?_;obtain ⟨w1,w2,w3,w4⟩ := wrongS_e (pls := pls) (s := s1) (i := s.i) (e := 4) he1 (by decide);refine EvC.ret ⟨rx,_,_,_,rfl,leaveD_rw (rfl),?_⟩;exact ⟨_,nodes_nil (by omega) (by omega) (by omega) (by omega) w1,hH0.leaveRw1 hS2 (hH.erase 2)⟩
   | false =>
    refine zQ 11 ?_;refine qT hH at0 fun st hH => ?_;dsimp only [u2,u1,u3,u4,setMany,u5,u6,D.cells,Nat.reduceAdd,prsC,gotC,intC,rangeC] at hH;refine zQ 4 ?_;obtain ⟨hev,hml,_⟩ := mk_ev (l := lr) (hH.rows at2) (by omega);refine qv hev ?_;refine zQ 2 ?_;generalize makeR lr = m at *;refine zQ 5 ?_
    have hfin : ∀ (st : St) (a : List Rg) (k70 : Nat),a.length <= 1048576 -> S2.bs.length <= k70 -> Has N S2 st (.lst (.win k70 0 0 1 7) 7 [[.int .i64 2,rangesV a, .int .i64 0, .int .i64 0, .bool false, .int .i64 0, .int .i64 0]] :: .box k (.mem 0 false (prsC gs plD { s1 with i := s1.i + 1 })) :: .lst plD 1 (pls.map intC) :: .lst ld 2 (lr.map rangeC) :: H) ->
      ∃ d st',leaveD .rw false s0 st (.win k70 0 0 1 7) = some (d,st') /\ ∃ (s' : Prs),NodesP gs s s' d 2 /\ Has N S st' (.box k (.mem 0 false (prsC gs plD s')) :: .lst plD 1 (pls.map intC) :: H) := by
     intro st a k70 ha hk hH;have hfz := has_freeze1 hH at0 (L := s0.bs.length) (.inl rfl) (fun k hk => by simp only [D.ref] at hk; rw [<- hS2]; omega);exact ⟨_,_,leaveD_rw hfz, { s1 with i := s1.i + 1 },⟨h1,by show s1.g <= 4; omega,by show s.i <= s1.i + 1; omega,by show s1.i + 1 <= _; omega,_,rfl,mk_v ha (by omega),by simp, .inr ⟨he1,by show 1 + 2 <= 4 * (s1.i + 1 - s.i); omega⟩⟩,hH0.leaveRw1 hS2 ((hH.drop 1).erase 2)⟩
    cases nt with
    | true =>
     refine zQ 3 ?_;obtain ⟨_,hev,a,rfl,hla⟩ := not_ev (l := m) (rangesV_rows _ _) (by omega);refine qv hev ?_;refine zQ 5 ?_;refine EvO.ones (qs := [(0,_),(1,_)]) rfl rfl rfl rfl ⟨rfl,(ev rfl),(by rfl),rfl,(ev rfl),(by rfl),trivial⟩ (by intro q hq; simp only [List.mem_cons,List.not_mem_nil,or_false] at hq; rcases hq with rfl | rfl <;> exact ⟨rfl,by exact Nat.le_of_ble_eq_true rfl⟩) (by show List.foldl _ [_,_,_,_,_,_,_] _ = _; dsimp only [List.foldl_cons,List.foldl_nil,u2,u1] <;> rfl) (put_T rfl _) ?_;refine qh (s := 7) (vs := [_]) hH fun k70 st hk70 hH => ?_;refine zQ 2 ?_;obtain ⟨d',st',hld,hrest⟩ := hfin _ a k70 (by omega) hk70 hH;refine EvC.ret ⟨rx,_,d',st',rfl,hld,hrest⟩
    | false =>
     refine zQ 5 ?_;refine EvO.ones (qs := [(0,_),(1,_)]) rfl rfl rfl rfl ⟨rfl,(ev rfl),(by rfl),rfl,(ev rfl),(by rfl),trivial⟩ (by intro q hq; simp only [List.mem_cons,List.not_mem_nil,or_false] at hq; rcases hq with rfl | rfl <;> exact ⟨rfl,by exact Nat.le_of_ble_eq_true rfl⟩) (by show List.foldl _ [_,_,_,_,_,_,_] _ = _; dsimp only [List.foldl_cons,List.foldl_nil,u2,u1] <;> rfl) (put_T rfl _) ?_;refine qh (s := 7) (vs := [_]) hH fun k70 st hk70 hH => ?_;refine zQ 2 ?_;obtain ⟨d',st',hld,hrest⟩ := hfin _ m k70 (by omega) hk70 hH;refine EvC.ret ⟨rx,_,d',st',rfl,hld,hrest⟩
  | false =>
   refine zQ 14 ?_;refine qn ?_;simp only [List.length_map];refine zQ 2 ?_;refine zP (fun hge => ?_) fun hge => ?_
   ·refine zQ 4 ?_;obtain ⟨_,st,hev,rfl,hH⟩ := wrong_ev (s := s1) s.i 4 (by omega) hH;refine qv hev ?_;refine zQ 2 ?_;obtain ⟨w1,w2,w3,w4⟩ := wrongS_e (pls := pls) (s := s1) (i := s.i) (e := 4) he1 (by decide);refine EvC.ret ⟨rx,_,_,_,rfl,leaveD_rw (rfl),?_⟩;exact ⟨_,nodes_nil (by omega) (by omega) (by omega) (by omega) w1,hH0.leaveRw1 hS2 (hH.erase 2)⟩
   ·refine zQ 5 ?_;obtain ⟨_,st,hev,s2,⟨i1,i2,i3,i4,a,rfl,i5,i6⟩,hH⟩ := item_ev (s := s1) hok he1 (by omega) hH;have hra := (ranges_sl a).arg N S2;have hrf := range_refs a;refine qv hev ?_;refine EvO.happend (s := 2) hH rfl (ev rfl) (ev rfl) (by exact at2) (by exact Arg.rows (by assumption) hH) rfl rfl rfl rfl rfl rfl rfl ⟨(Nat.le_of_ble_eq_true rfl),(Nat.le_of_ble_eq_true rfl)⟩ (fun _ => (put_T rfl _)) (by simp only [List.length_map] <;> omega) (by exact .inr (by assumption)) (fun x46 st hH => ?_);dsimp only [u2,u1,u3,u4,setMany,u5,u6,D.cells,Nat.reduceAdd,prsC,gotC,intC,rangeC] at hH;refine zQ 5 ?_;exact ⟨mm - 1,by omega,⟨s2,x46,lr ++ a,false,rfl,(by rw [List.map_append]; exact hH),i1.trans h1,i2.trans h2,by omega,i4,by rw [List.length_append]; omega,fun e => by rw [List.length_append]; omega,by split <;> omega⟩⟩
 ·have hg5 : (s1.e == 0) = false := by simpa using he1
  refine zQ 25 ?_;refine qD rfl (by simp [he1]) ?_;refine zQ 4 ?_;refine EvC.ret ⟨rx,_,_,_,rfl,leaveD_rw (rfl),?_⟩;exact ⟨_,nodes_nil h1 (by omega) (by omega) h4 he1,hH0.leaveRw1 hS2 (hH.erase 2)⟩
end Go.Proofs.Ytnleclohocdkaaa
namespace Go.Proofs.Ytnleclohocdkaaa
open Go.V Go
def ixF_Pf (fr : Go.V.Fr) (k : Nat) : Go.V.D := Go.V.nth .junk fr.loc k
def MoveP (gs : List (Nat × Nat)) (s s' : Prs) : Prop := s'.o = s.o /\ s'.g = s.g /\ s.i < s'.i /\ s'.i <= gs.length
theorem often_ev {N k : Nat} {S s0 : St} {H : List Ent} {gs : List (Nat × Nat)} {plD : D} {pls : List Int} {s : Prs} (hok : PrsOk gs pls) (he : s.e = 0) (hi : s.i < gs.length) (hH : Has N S s0 (.box k (.mem 0 false (prsC gs plD s)) :: .lst plD 1 (pls.map intC) :: H)) :
  ∃ d st',Ev pv 112 [.ptr k 0 0] s0 d st' /\ ∃ (n1 n2 : Int) (s' : Prs),d = .tup [.int .i64 n1, .int .i64 n2] /\ MoveP gs s s' /\ Has N S st' (.box k (.mem 0 false (prsC gs plD s')) :: .lst plD 1 (pls.map intC) :: H) := by
 have hgl := hok.gl;have hpl := hok.pl;have hne : gs ≠ [] := by rintro rfl; simp at hi
 refine Ev.mkE rfl fi112 rfl rfl rfl ?_;refine zE ?_;have hH0 := hH;have hH := hH.enterRw;have hS2 : (enterSt .rw s0).bs = s0.bs := rfl;generalize enterSt .rw s0 = S2 at *;refine zQ 22 ?_;refine qT hH at0 fun st hH => ?_;dsimp only [u2,u1,u3,u4,setMany,u5,u6,D.cells,Nat.reduceAdd,prsC,gotC,intC,rangeC] at hH;refine zQ 1 ?_;have hH : Has N S2 st (.box k (.mem 0 false (prsC gs plD { s with i := s.i + 1 })) :: .lst plD 1 (pls.map intC) :: H) := hH
 have herr : ∀ (st : St) (s3 : Prs) (e : Int),e ≠ 0 -> s3.e = 0 -> MoveP gs s s3 -> Has N S2 st (.box k (.mem 0 false (prsC gs plD s3)) :: .lst plD 1 (pls.map intC) :: H) -> ∃ d st',Ev pv 39 [.ptr k 0 0, .int .i64 (s.i : Nat), .int .i64 e] st d st' /\ d = .sl [] /\ ∃ s4,MoveP gs s s4 /\ Has N S2 st' (.box k (.mem 0 false (prsC gs plD s4)) :: .lst plD 1 (pls.map intC) :: H) := by
  intro st s3 e h0 h1 h2 hH;obtain ⟨d,st',hev,h4,hH⟩ := wrong_ev (s := s3) s.i e (by omega) hH;obtain ⟨w1,w2,w3,w4⟩ := wrongS_e (pls := pls) (s := s3) (i := s.i) (e := e) h1 h0;exact ⟨d,st',hev,h4,_,⟨w3.trans h2.1,w4.trans h2.2.1,by rw [w2]; exact h2.2.2.1,by rw [w2]; exact h2.2.2.2⟩,hH⟩
 refine zQ 3 ?_;obtain ⟨_,st,hev,m,ok,mm,rfl,hml,hmi,hH⟩ := digits_ev (s := { s with i := s.i + 1 }) hgl (by show s.i + 1 <= _; omega) hne hH;refine qv hev ?_;refine zQ 6 ?_
 obtain ⟨s1,hs1⟩ : ∃ s1 : Prs,({ s with i := s.i + 1 + mm } : Prs) = s1 := ⟨_,rfl⟩
 have hs1e : s1.e = 0 := by rw [<- hs1]; exact he
 have hs1m : MoveP gs s s1 := by rw [<- hs1]; exact ⟨rfl,rfl,by show s.i < s.i + 1 + mm; omega,hmi⟩
 have hH : Has N S2 st (.box k (.mem 0 false (prsC gs plD s1)) :: .lst plD 1 (pls.map intC) :: H) := by rw [<- hs1]; exact hH
 clear hs1;refine zQ 8 ?_;refine EvC.merge3 (fun fr st => ∃ (n : List UInt8) (en : Bool) (s3 : Prs) (tmp : List (Nat × D)),fr = ⟨14, [.ptr k 0 0,ixF_Pf fr 1,ixF_Pf fr 2,ixF_Pf fr 3, .int .i64 (s.i : Nat), .str m, .bool ok, .str n, .bool en,ixF_Pf fr 9,ixF_Pf fr 10,ixF_Pf fr 11,ixF_Pf fr 12,ixF_Pf fr 13],tmp⟩ /\ Has N S2 st (.box k (.mem 0 false (prsC gs plD s3)) :: .lst plD 1 (pls.map intC) :: H) /\ (s3.e = 0) /\ (MoveP gs s s3) /\ (n.length <= 120)) ?_ ?_
 ·cases ok with
  | false =>
   have hg1 : false = false := rfl;refine zQ 9 ?_;exact ⟨m,false,s1,_,rfl,hH,hs1e,hs1m,hml⟩
  | true =>
   have hg1 : true = true := rfl;obtain ⟨k1,k2,k3,k4,k5⟩ := skip_i (gs := gs) (s := s1) (r := 44);have k5 := k5 hs1m.2.2.2;refine zQ 4 ?_;obtain ⟨_,st,hev,rfl,hH⟩ := skip_ev (s := s1) (by omega) 44 hH;refine qv hev ?_ (hg := wi hg1);refine zQ 2 ?_;generalize skipS gs s1 44 = s2 at *
   have hs2m : MoveP gs s s2 := ⟨k1.trans hs1m.1,k2.trans hs1m.2.1,by have := hs1m.2.2.1; omega,k5⟩
   cases hb : isS gs s1.i 44 with
   | false =>
    refine zQ 2 ?_;exact ⟨m,false,s2,_,rfl,hH,k3.trans hs1e,hs2m,hml⟩
   | true =>
    refine zQ 8 ?_;obtain ⟨_,st,hev,n,there,mm2,rfl,hnl,hni,hH⟩ := digits_ev (s := s2) hgl k5 hne hH;refine qv hev ?_;refine zQ 11 ?_;exact ⟨n, !there, { s2 with i := s2.i + mm2 },_,rfl,hH,k3.trans hs1e,⟨hs2m.1,hs2m.2.1,by have := hs2m.2.2.1; show s.i < s2.i + mm2; omega,hni⟩,hnl⟩
 ·rintro fr st ⟨n,en,s3,tmp,hfr,hH,h1,h2,h3⟩;rw [hfr];clear hfr;generalize ixF_Pf fr = ee;clear fr;obtain ⟨k1,k2,k3,k4,k5⟩ := skip_i (gs := gs) (s := s3) (r := 125);have k5 := k5 h2.2.2.2
  have hs4m : MoveP gs s (skipS gs s3 125) := ⟨k1.trans h2.1,k2.trans h2.2.1,by have := h2.2.2.1; omega,k5⟩
  have hs4e : (skipS gs s3 125).e = 0 := k3.trans h1
  cases ok with
  | false =>
   have hg2 : (!false) = true := rfl;refine zQ 25 ?_;obtain ⟨_,st,hev,rfl,s4,hm4,hH⟩ := herr _ s3 4 (by decide) h1 h2 hH;refine qv hev ?_;refine zQ 6 ?_;refine EvC.ret ⟨rx,_,_,_,rfl,leaveD_rw (rfl),?_⟩;exact ⟨_,_,s4,rfl,hm4,hH0.leaveRw1 hS2 hH⟩
  | true =>
   have hg2 : (!true) = false := rfl
   cases hg7 : (!isS gs s3.i 125) with
   | true =>
    refine zQ 7 ?_;obtain ⟨_,st,hev,rfl,hH⟩ := skip_ev (s := s3) (by omega) 125 hH;refine qv hev ?_ (hg := wi hg2);refine zQ 12 ?_;generalize skipS gs s3 125 = s4 at *;refine zQ 5 ?_;obtain ⟨_,st,hev,rfl,s5,hm5,hH⟩ := herr _ s4 4 (by decide) hs4e hs4m hH;refine qv hev ?_;refine zQ 6 ?_;refine EvC.ret ⟨rx,_,_,_,rfl,leaveD_rw (rfl),?_⟩;exact ⟨_,_,s5,rfl,hm5,hH0.leaveRw1 hS2 hH⟩
   | false =>
    have hrest : True := trivial
    cases en with
    | true =>
     have hg10 : (!true) = false := rfl;refine zQ 7 ?_;obtain ⟨_,st,hev,rfl,hH⟩ := skip_ev (s := s3) (by omega) 125 hH;refine qv hev ?_ (hg := wi hg2);refine zQ 9 ?_;refine EvO.pickF (wantD_is rfl rfl rfl hg7) rfl hg10 (put_T rfl _) ?_;refine zQ 2 ?_;generalize skipS gs s3 125 = s4 at *;refine zQ 2 ?_;obtain ⟨_,hv1,a1,f1,rfl⟩ := value_ev (s0 := st) m (by omega);refine zQ 3 ?_;refine qv (hv1) ?_;refine zQ 15 ?_;obtain ⟨_,hv2,a2,f2,rfl⟩ := value_ev (s0 := st) [] (by simp);refine zQ 3 ?_;refine qv (hv2) ?_;refine zQ 8 ?_;refine EvC.cutT 78 (.bool (!f1 || !f2)) [] ?_ (fun ff tmp htmp => ?_)
     ·refine zQ 3 ?_;refine EvO.two 75 rfl (fun hg2 => ?_) (fun hg2 => ?_)
      ·refine zQ 3 ?_;refine EvO.nil (leafT ?_ ?_)
       ·dsimp only [setW,List.foldl,nth,u2,u1]
        all_goals (first | rfl | simp)
       ·refine zF ?_
        all_goals (simp [hg2]; done)
      ·refine zQ 3 ?_;refine EvO.nil (leafT ?_ ?_)
       ·dsimp only [setW,List.foldl,nth,u2,u1]
        all_goals (first | rfl | simp)
       ·refine zF ?_
        all_goals (simp [hg2]; done)
     dsimp only [setW,List.foldl,nth,u2,u1];refine qc (fun hff => ?_) (fun hff => ?_) <;> try simp only [cs] at hff
     ·refine zQ 4 ?_;obtain ⟨_,st,hev,rfl,s5,hm5,hH⟩ := herr _ s4 2 (by decide) hs4e hs4m hH;refine qv hev ?_;refine zQ 6 ?_;refine EvC.ret ⟨rx,_,_,_,rfl,leaveD_rw (rfl),?_⟩;exact ⟨_,_,s5,rfl,hm5,hH0.leaveRw1 hS2 hH⟩
     ·refine zQ 17 ?_;refine EvC.ret ⟨rx,_,_,_,rfl,leaveD_rw (rfl),?_⟩;exact ⟨_,_,s4,rfl,hs4m,hH0.leaveRw1 hS2 hH⟩
    | false =>
     have hg10 : (!false) = true := rfl;refine zQ 7 ?_;obtain ⟨_,st,hev,rfl,hH⟩ := skip_ev (s := s3) (by omega) 125 hH;refine qv hev ?_ (hg := wi hg2);refine zQ 8 ?_;obtain ⟨_,hle,v,rfl⟩ := less_ev (s0 := st) n m;refine EvO.hcall (wantD_is rfl rfl rfl hg10) rfl hle (put_T rfl _) ?_;refine EvO.pickT (wantD_is rfl rfl rfl hg7) rfl hg10 (put_T rfl _) ?_;refine zQ 2 ?_;generalize skipS gs s3 125 = s4 at *
     cases v with
     | true =>
      refine zQ 5 ?_;obtain ⟨_,st,hev,rfl,s5,hm5,hH⟩ := herr _ s4 4 (by decide) hs4e hs4m hH;refine qv hev ?_;refine zQ 6 ?_;refine EvC.ret ⟨rx,_,_,_,rfl,leaveD_rw (rfl),?_⟩;exact ⟨_,_,s5,rfl,hm5,hH0.leaveRw1 hS2 hH⟩
     | false =>
      refine zQ 2 ?_;obtain ⟨_,hv1,a1,f1,rfl⟩ := value_ev (s0 := st) m (by omega);refine zQ 3 ?_;refine qv (hv1) ?_;refine zQ 13 ?_;obtain ⟨_,hv2,a2,f2,rfl⟩ := value_ev (s0 := st) n (by omega);refine zQ 3 ?_;refine qv (hv2) ?_;refine zQ 8 ?_;refine EvC.cutT 78 (.bool (!f1 || !f2)) [] ?_ (fun ff tmp htmp => ?_)
      ·refine zQ 3 ?_;refine EvO.two 75 rfl (fun hg2 => ?_) (fun hg2 => ?_)
       ·refine zQ 3 ?_;refine EvO.nil (leafT ?_ ?_)
        ·dsimp only [setW,List.foldl,nth,u2,u1]
         all_goals (first | rfl | simp)
        ·refine zF ?_
         all_goals (simp [hg2]; done)
       ·refine zQ 3 ?_;refine EvO.nil (leafT ?_ ?_)
        ·dsimp only [setW,List.foldl,nth,u2,u1]
         all_goals (first | rfl | simp)
        ·refine zF ?_
         all_goals (simp [hg2]; done)
      dsimp only [setW,List.foldl,nth,u2,u1];refine qc (fun hff => ?_) (fun hff => ?_) <;> try simp only [cs] at hff
      ·refine zQ 4 ?_;obtain ⟨_,st,hev,rfl,s5,hm5,hH⟩ := herr _ s4 2 (by decide) hs4e hs4m hH;refine qv hev ?_;refine zQ 6 ?_;refine EvC.ret ⟨rx,_,_,_,rfl,leaveD_rw (rfl),?_⟩;exact ⟨_,_,s5,rfl,hm5,hH0.leaveRw1 hS2 hH⟩
      ·refine zQ 15 ?_;refine EvC.ret ⟨rx,_,_,_,rfl,leaveD_rw (rfl),?_⟩;exact ⟨_,_,s4,rfl,hs4m,hH0.leaveRw1 hS2 hH⟩
end Go.Proofs.Ytnleclohocdkaaa
namespace Go.Proofs.Ytnleclohocdkaaa
open Go.V Go
def ixF_Pg (fr : Go.V.Fr) (k : Nat) : Go.V.D := Go.V.nth .junk fr.loc k
theorem refs_plain : ∀ {l : List D},(∀ d ∈ l,plainC d = true) -> refs l = 0
 | [],_ => rfl
 | d :: l,h => by
  have h1 := refs_plain (l := l) fun d hd => h d (List.mem_cons_of_mem _ hd);have h2 := h d (List.mem_cons_self ..)
  have h3 : d.ref = 0 := by cases d <;> first | rfl | (simp [plainC] at h2)
  simp only [refs,h1,h3,Nat.max_self]
theorem nod_refs0 {l : List Nod} (h : ∀ n ∈ l,NdV n) : refs (l.map nodC).flatten = 0 :=
 refs_plain fun d hd => by
  obtain ⟨e,he,hd'⟩ := List.mem_flatten.1 hd;exact nod_plain h e he d hd'
def partC (l : List Nod) : List D := [nlD l]
theorem part_get {l : List (List Nod)} {i : Nat} {q : List Nod} (h : l[i]? = some q) : (l.map partC)[i]? = some (partC q) := by rw [List.getElem?_map,h]; rfl
def sumL : List (List Nod) -> Nat
 | [] => 0
 | l :: ls => l.length + sumL ls
theorem sumL_append : ∀ a b : List (List Nod),sumL (a ++ b) = sumL a + sumL b
 | [],b => by simp [sumL]
 | l :: a,b => by rw [List.cons_append,sumL,sumL,sumL_append a b]; omega
theorem joined_ev {s0 : St} {x : D} {parts : List (List Nod)} (op : Int) (hx : V.Rows s0 1 x (parts.map partC)) (hv : ∀ l ∈ parts, ∀ n ∈ l,NdV n) (hp : parts.length <= 100000) (hs : sumL parts <= 100000) : ∃ d,Ev pv 73 [.int .i64 op,x] s0 d s0 /\ ∃ l,d = nlD l /\ (∀ n ∈ l,NdV n) /\ (parts.length = 1 -> l.length <= sumL parts) /\ l.length <= sumL parts + 1 := by
 refine Ev.mkR rfl fi73 rfl rfl rfl ?_;refine zE ?_;obtain ⟨hSb,hF,hH⟩ := ri s0;generalize enterSt .ro s0 = S at *;have hx := Arg.of hx hSb;refine zQ 8 ?_;refine qn ?_;simp only [List.length_map];refine zQ 7 ?_
 by_cases h0 : parts.length = 0
 ·refine qD rfl (by simp [h0]) ?_;refine zQ 2 ?_;refine EvO.go (d := .agg [.int .i64 1, .nul, .int .i64 0, .int .i64 0, .bool false, .int .i64 0, .int .i64 0]) (st1 := _) rfl rfl rfl (by dsimp only [Fr.put,u1,u2] <;> rfl) ?_;refine qh (s := 7) (vs := [_]) hH fun k13 st hk13 hH => ?_;refine zQ 2 ?_;have hfz := has_freeze1 (L := s0.bs.length) (a := []) hH at0 (.inr ⟨rfl,rfl⟩) (fun k hk => by have hk' : k13 + 1 = k + 1 := hk; rw [<- hSb]; omega);refine EvC.ret ⟨rx,_,_,rfl,rl hSb hH (hfz),?_⟩;exact ⟨_,rfl,mk_v (by simp) (by omega),by omega,by simp⟩
 have hc0 : (((parts.length : Nat) : Int) == 0) = false := by rw [beq_eq_false_iff_ne]; omega
 refine qE rfl (by rw [hc0]) ?_;refine zQ 5 ?_
 by_cases h1 : parts.length = 1
 ·obtain ⟨q,hq⟩ : ∃ q,parts[0]? = some q := ⟨parts[0]'(by omega),List.getElem?_eq_getElem _⟩
  have hr1 := part_get hq
  have hq1 : parts = [q] := by
   match parts,h1,hq with
   | [a],_,hq => simp at hq; rw [hq]
  refine qD rfl (by simp [h1]) ?_;refine zQ 3 ?_;refine qr fun p17 hp17 => ?_;refine zQ 3 ?_;refine EvC.ret ⟨rx,_,_,rfl,rl hSb hH (rfl),?_⟩;refine ⟨q,rfl,hv q (List.mem_of_getElem? hq),fun _ => ?_,?_⟩ <;> rw [hq1] <;> simp [sumL]
 have hc1 : (((parts.length : Nat) : Int) == 1) = false := by rw [beq_eq_false_iff_ne]; omega
 refine qE rfl (by rw [hc1]) ?_;refine zQ 5 ?_;refine qn ?_;simp only [List.length_map];refine EvO.go (d := .agg [.int .i64 op, .nul, .int .i64 0, .int .i64 0, .bool false, .int .i64 0, .int .i64 (parts.length : Nat)]) (st1 := _) rfl rfl rfl (by dsimp only [Fr.put,u1,u2] <;> rfl) ?_;refine qh (s := 7) (vs := [_]) hH fun k23 st hk23 hH => ?_;refine zQ 6 ?_;refine qn ?_;simp only [List.length_map];refine zQ 2 ?_;have hH : Has s0.bs.length S st (.lst (.win k23 0 0 1 7) 7 [[.int .i64 op, .nul, .int .i64 0, .int .i64 0, .bool false, .int .i64 0, .int .i64 (parts.length : Nat)]] :: []) := hH;refine zQ 1 ?_;refine EvC.loop (fun mm fr st => ∃ (i : Nat) (od : D) (es : List (List D)) (lo : List Nod),fr.clean = ⟨27, [ixF_Pg fr 0,ixF_Pg fr 1,ixF_Pg fr 2,ixF_Pg fr 3,ixF_Pg fr 4,od,ixF_Pg fr 6,ixF_Pg fr 7,ixF_Pg fr 8,ixF_Pg fr 9,ixF_Pg fr 10,ixF_Pg fr 11,ixF_Pg fr 12,ixF_Pg fr 13,ixF_Pg fr 14,ixF_Pg fr 15,ixF_Pg fr 16,ixF_Pg fr 17,ixF_Pg fr 18,ixF_Pg fr 19,ixF_Pg fr 20,ixF_Pg fr 21,ixF_Pg fr 22,ixF_Pg fr 23,x, .int .i64 (parts.length : Nat), .int .i64 (i : Nat)], []⟩ /\ Has s0.bs.length S st [.lst od 7 es] /\ (i + mm = parts.length) /\ (es.map (·.map frzC) = lo.map nodC) /\ (∀ e ∈ es, ∀ d ∈ e,tellC d = true) /\ (∀ n ∈ lo,NdV n) /\ (lo.length = 1 + sumL (parts.take i)) /\ (∀ k,od.ref = k + 1 -> S.bs.length <= k)) (parts.length) ?_ ?_
 ·refine ⟨0, .win k23 0 0 1 7, [[.int .i64 op, .nul, .int .i64 0, .int .i64 0, .bool false, .int .i64 0, .int .i64 (parts.length : Nat)]], [mkNd op 0 0 false 0 (parts.length : Nat) []],rfl,hH,by omega,rfl,?_,mk_v (by simp) (by omega),by simp [sumL],fun k hk => by simp only [D.ref] at hk; omega⟩;intro e he d hd;simp only [List.mem_cons,List.not_mem_nil,or_false] at he;subst he;simp only [List.mem_cons,List.not_mem_nil,or_false] at hd
  rcases hd with rfl | rfl | rfl | rfl | rfl | rfl | rfl <;> rfl
 rintro mm fr st ⟨i,od,es,lo,hfr,hH,hi,hes,ht,hlv,hlen,hod⟩;rw [hfr];clear hfr;generalize ixF_Pg fr = ee;clear fr;refine zQ 4 ?_
 by_cases hlt : i < parts.length
 ·obtain ⟨q,hq⟩ : ∃ q,parts[i]? = some q := ⟨parts[i]'hlt,List.getElem?_eq_getElem _⟩
  have hr1 := part_get hq;have hqv := hv q (List.mem_of_getElem? hq);have hel : es.length = lo.length := by have := congrArg List.length hes; simpa using this
  have htk : parts.take (i + 1) = parts.take i ++ [q] := by rw [List.take_add_one,hq]; rfl
  have hsum : sumL (parts.take (i + 1)) = sumL (parts.take i) + q.length := by rw [htk,sumL_append]; simp [sumL]
  have hsle : sumL (parts.take (i + 1)) <= sumL parts := by
   have := sumL_append (parts.take (i + 1)) (parts.drop (i + 1));rw [List.take_append_drop] at this; omega
  refine qq ?_;refine qD rfl (by simp; omega) ?_;refine zQ 5 ?_;refine qr fun p28 hp28 => ?_;refine zQ 6 ?_;refine EvO.happend5 (s := 7) hH rfl (ev rfl) (ev rfl) at0 ((nl_sl hqv).rows st) rfl rfl rfl rfl rfl rfl rfl ⟨(Nat.le_of_ble_eq_true rfl),(Nat.le_of_ble_eq_true rfl)⟩ (fun _ => (put_T rfl _)) (by rw [List.length_map]; omega) (.inl hF) hod (fun x32 st hod hH => ?_);dsimp only [u2] at hH;refine zQ 6 ?_;refine ⟨mm - 1,by omega,⟨i + 1,x32,es ++ q.map nodC,lo ++ q,rfl,hH,by omega,by rw [List.map_append,List.map_append,hes,nod_frz hqv],?_,?_,by rw [List.length_append,hlen,hsum]; omega,hod⟩⟩
  ·intro e he
   rcases List.mem_append.1 he with he | he
   ·exact ht e he
   ·exact nod_tell hqv e he
  ·intro n hn
   rcases List.mem_append.1 hn with hn | hn
   ·exact hlv n hn
   ·exact hqv n hn
 ·refine qq ?_;refine qE rfl (by simp; omega) ?_;refine zQ 6 ?_;have hik : i = parts.length := by omega
  rw [hik,List.take_length] at hlen;refine EvC.ret ⟨rx,_,_,rfl,rl hSb hH (has_freezeN hH at0 hes ht (fun k hk => by have := hod k hk; rw [<- hSb]; exact this) (by decide)),?_⟩;exact ⟨_,rfl,hlv,by omega,by omega⟩
end Go.Proofs.Ytnleclohocdkaaa
namespace Go.Proofs.Ytnleclohocdkaaa
open Go.V Go
def ixF_Ph (fr : Go.V.Fr) (k : Nat) : Go.V.D := Go.V.nth .junk fr.loc k
theorem Has_rot3 {N : Nat} {S st : St} {H : List Ent} {a b c : Ent} (h : Has N S st (a :: b :: c :: H)) : Has N S st (b :: c :: a :: H) := by
 have h1 := h.front at1;have h2 := h1.front at2;exact h2.front at1
def AltSpec (m : Nat) : Prop := ∀ {N k : Nat} {S s0 : St} {H : List Ent} {gs : List (Nat × Nat)} {plD : D} {pls : List Int} {s : Prs},PrsOk gs pls -> s.e = 0 -> s.i <= gs.length -> s.g <= 4 -> s.o + m = 20 -> Has N S s0 (.box k (.mem 0 false (prsC gs plD s)) :: .lst plD 1 (pls.map intC) :: H) ->
  ∃ d st',Ev pv 38 [.ptr k 0 0] s0 d st' /\ ∃ (s' : Prs),NodesQ gs s s' d /\ Has N S st' (.box k (.mem 0 false (prsC gs plD s')) :: .lst plD 1 (pls.map intC) :: H)
theorem group_ev {m : Nat} (hA : ∀ m',m' + 1 = m -> AltSpec m') {N k : Nat} {S s0 : St} {H : List Ent} {gs : List (Nat × Nat)} {plD : D} {pls : List Int} {s : Prs} (hok : PrsOk gs pls) (he : s.e = 0) (hi : s.i < gs.length) (hg : s.g <= 4) (ho : s.o + m = 20) (hH : Has N S s0 (.box k (.mem 0 false (prsC gs plD s)) :: .lst plD 1 (pls.map intC) :: H)) :
  ∃ d st',Ev pv 121 [.ptr k 0 0] s0 d st' /\ ∃ (s' : Prs),NodesP gs s s' d 2 /\ Has N S st' (.box k (.mem 0 false (prsC gs plD s')) :: .lst plD 1 (pls.map intC) :: H) := by
 have hgl := hok.gl;have hpl := hok.pl;refine Ev.mkE rfl fi121 rfl rfl rfl ?_;refine zE ?_;have hH0 := hH;have hH := hH.enterRw;have hS2 : (enterSt .rw s0).bs = s0.bs := rfl;generalize enterSt .rw s0 = S2 at *
 have hwr : ∀ (st : St) (s3 : Prs) (e : Int) (H2 : List Ent),e ≠ 0 -> s3.e = 0 -> s3.o = s.o -> s3.g <= 4 -> s.i <= s3.i -> s3.i <= gs.length -> Has N S2 st (.box k (.mem 0 false (prsC gs plD s3)) :: .lst plD 1 (pls.map intC) :: H2) -> ∃ d st',Ev pv 39 [.ptr k 0 0, .int .i64 (s.i : Nat), .int .i64 e] st d st' /\ d = .sl [] /\ ∃ s4,NodesP gs s s4 (.sl []) 2 /\ Has N S2 st' (.box k (.mem 0 false (prsC gs plD s4)) :: .lst plD 1 (pls.map intC) :: H2) := by
  intro st s3 e H2 h0 h1 h2 h3 h4 h5 hH;obtain ⟨d,st',hev,h6,hH⟩ := wrong_ev (s := s3) s.i e (by omega) hH;obtain ⟨w1,w2,w3,w4⟩ := wrongS_e (pls := pls) (s := s3) (i := s.i) (e := e) h1 h0;exact ⟨d,st',hev,h6,_,nodes_nil (w3.trans h2) (by omega) (by omega) (by omega) w1,hH⟩
 refine zQ 21 ?_;refine qT hH at0 fun st hH => ?_;dsimp only [u2,u1,u3,u4,setMany,u5,u6,D.cells,Nat.reduceAdd,prsC,gotC,intC,rangeC,nodC] at hH;refine zQ 1 ?_;have hH : Has N S2 st (.box k (.mem 0 false (prsC gs plD { s with i := s.i + 1 })) :: .lst plD 1 (pls.map intC) :: H) := hH
 obtain ⟨s1,hs1⟩ : ∃ s1 : Prs,({ s with i := s.i + 1 } : Prs) = s1 := ⟨_,rfl⟩
 have hs1f : s1.e = 0 /\ s1.o = s.o /\ s1.g = s.g /\ s1.i = s.i + 1 := by rw [<- hs1]; exact ⟨he,rfl,rfl,rfl⟩
 rw [hs1] at hH;clear hs1;obtain ⟨f1,f2,f3,f4⟩ := hs1f;refine zQ 6 ?_;refine EvC.merge3 (fun fr st => ∃ (free : Bool) (s2 : Prs) (tmp : List (Nat × D)),fr = ⟨7, [.ptr k 0 0,ixF_Ph fr 1,ixF_Ph fr 2, .int .i64 (s.i : Nat), .bool free,ixF_Ph fr 5,ixF_Ph fr 6],tmp⟩ /\ Has N S2 st (.box k (.mem 0 false (prsC gs plD s2)) :: .lst plD 1 (pls.map intC) :: H) /\ (s2.e = 0) /\ (s2.o = s.o) /\ (s2.g = s.g) /\ (s.i + 1 <= s2.i) /\ (s2.i <= gs.length)) ?_ ?_
 ·obtain ⟨k1,k2,k3,k4,k5⟩ := skip_i (gs := gs) (s := s1) (r := 63);have k5 := k5 (by omega);refine zQ 2 ?_;obtain ⟨_,st,hev,rfl,hH⟩ := skip_ev (s := s1) (by omega) 63 hH;refine qv hev ?_;refine zQ 1 ?_;generalize skipS gs s1 63 = s2 at *
  cases hb : isS gs s1.i 63 with
  | false =>
   refine zQ 2 ?_;exact ⟨false,s2,_,rfl,hH,by omega,by omega,by omega,by omega,by omega⟩
  | true =>
   refine zQ 5 ?_;obtain ⟨r1,r2,r3,r4,r5⟩ := skip_i (gs := gs) (s := s2) (r := 58);have r5 := r5 k5;refine zQ 3 ?_;obtain ⟨_,st,hev,rfl,hH⟩ := skip_ev (s := s2) (by omega) 58 hH;refine qv hev ?_;refine zQ 2 ?_;generalize skipS gs s2 58 = s3 at *
   cases hb2 : isS gs s2.i 58 with
   | false =>
    refine zQ 5 ?_;obtain ⟨_,st,hev,rfl,s4,hN,hH⟩ := hwr _ s3 4 _ (by decide) (by omega) (by omega) (by omega) (by omega) (by omega) hH;refine qv hev ?_;refine zQ 2 ?_;refine EvC.ret ⟨rx,_,_,_,rfl,leaveD_rw (rfl),?_⟩;exact ⟨s4,hN,hH0.leaveRw1 hS2 hH⟩
   | true =>
    refine zQ 2 ?_;exact ⟨true,s3,_,rfl,hH,by omega,by omega,by omega,by omega,by omega⟩
 ·rintro fr st ⟨free,s2,tmp,hfr,hH,h1,h2,h3,h4,h5⟩;rw [hfr];clear hfr;generalize ixF_Ph fr = ee;clear fr;refine zQ 9 ?_
  by_cases hdeep : 20 <= s2.o
  ·have hcc : decide (((s2.o : Nat) : Int) >= 20) = true := by rw [decide_eq_true_eq]; omega
   refine qD rfl (by rw [hcc]) ?_;refine zQ 4 ?_;obtain ⟨_,st,hev,rfl,s4,hN,hH⟩ := hwr _ s2 10 _ (by decide) h1 h2 (by omega) (by omega) h5 hH;refine qv hev ?_;refine zQ 2 ?_;refine EvC.ret ⟨rx,_,_,_,rfl,leaveD_rw (rfl),?_⟩;exact ⟨s4,hN,hH0.leaveRw1 hS2 hH⟩
  have hcc : decide (((s2.o : Nat) : Int) >= 20) = false := by rw [decide_eq_false_iff_not]; omega
  refine qE rfl (by rw [hcc]) ?_;refine zQ 3 ?_;refine EvO.go (d := .agg [.int .i64 6, .nul, .int .i64 0, .int .i64 0, .bool false, .int .i64 0, .int .i64 1]) (st1 := _) rfl rfl rfl (put_T rfl _) ?_;refine qa hH fun k5 st hk5 hH => ?_;dsimp only [u2,u1,u3,u4,setMany,u5,u6,D.cells,Nat.reduceAdd,prsC,gotC,intC,rangeC,nodC] at hH;refine qS hH at0 fun st hH => ?_;dsimp only [u2,u1,u3,u4,setMany,u5,u6,D.cells,Nat.reduceAdd,prsC,gotC,intC,rangeC,nodC] at hH;refine zQ 1 ?_;have hH : Has N S2 st (.box k (.mem 0 false (prsC gs plD s2)) :: .lst plD 1 (pls.map intC) :: .box k5 (.mem 0 false [.int .i64 6, .nul, .int .i64 0, .int .i64 0, .bool false, .int .i64 0, .int .i64 1]) :: H) := Has_rot3 hH;refine zQ 2 ?_;refine EvC.merge3 (fun fr st => ∃ (cap : Int) (s3 : Prs) (tmp : List (Nat × D)),fr = ⟨7, [.ptr k 0 0,ixF_Ph fr 1,ixF_Ph fr 2, .int .i64 (s.i : Nat), .bool free, .ptr k5 0 0,ixF_Ph fr 6],tmp⟩ /\ Has N S2 st (.box k (.mem 0 false (prsC gs plD s3)) :: .lst plD 1 (pls.map intC) :: .box k5 (.mem 0 false [.int .i64 6, .nul, .int .i64 0, .int .i64 0, .bool false, .int .i64 cap, .int .i64 1]) :: H) /\ (s3.e = 0) /\ (s3.o = s.o) /\ (s3.g <= 4) /\ (s3.i = s2.i)) ?_ ?_
  ·refine zQ 4 ?_
   cases free with
   | true =>
    refine zQ 2 ?_;exact ⟨0,s2,_,rfl,hH,h1,h2,by omega,rfl⟩
   | false =>
    refine zQ 10 ?_
    by_cases hmany : 4 <= s2.g
    ·have hcc : decide (((s2.g : Nat) : Int) >= 4) = true := by rw [decide_eq_true_eq]; omega
     refine qD rfl (by rw [hcc]) ?_;refine zQ 4 ?_;obtain ⟨_,st,hev,rfl,s4,hN,hH⟩ := hwr _ s2 13 _ (by decide) h1 h2 (by omega) (by omega) h5 hH;refine qv hev ?_;refine zQ 2 ?_;refine EvC.ret ⟨rx,_,_,_,rfl,leaveD_rw (rfl),?_⟩;exact ⟨s4,hN,hH0.leaveRw1 hS2 (hH.erase 2)⟩
    ·have hcc : decide (((s2.g : Nat) : Int) >= 4) = false := by rw [decide_eq_false_iff_not]; omega
     refine qE rfl (by rw [hcc]) ?_;refine zQ 10 ?_;refine qT hH at0 fun st hH => ?_;dsimp only [u2,u1,u3,u4,setMany,u5,u6,D.cells,Nat.reduceAdd,prsC,gotC,intC,rangeC,nodC] at hH;refine zQ 7 ?_;refine qT hH at2 fun st hH => ?_;dsimp only [u2,u1,u3,u4,setMany,u5,u6,D.cells,Nat.reduceAdd,prsC,gotC,intC,rangeC,nodC] at hH;refine zQ 1 ?_;exact ⟨((s2.g + 1 : Nat) : Int), { s2 with g := s2.g + 1 },_,rfl,hH,h1,h2,by show s2.g + 1 <= 4; omega,rfl⟩
  ·rintro fr st ⟨cap,s3,tmp,hfr,hH,e1,e2,e3,e4⟩;rw [hfr];clear hfr;generalize ixF_Ph fr = ee;clear fr;refine zQ 9 ?_;refine qT hH at0 fun st hH => ?_;dsimp only [u2,u1,u3,u4,setMany,u5,u6,D.cells,Nat.reduceAdd,prsC,gotC,intC,rangeC,nodC] at hH;refine zQ 1 ?_;have hH : Has N S2 st (.box k (.mem 0 false (prsC gs plD { s3 with o := s3.o + 1 })) :: .lst plD 1 (pls.map intC) :: .box k5 (.mem 0 false [.int .i64 6, .nul, .int .i64 0, .int .i64 0, .bool false, .int .i64 cap, .int .i64 1]) :: H) := hH;refine zQ 3 ?_;obtain ⟨_,st,hev,s4,⟨a1,a2,a3,a4,l,rfl,a5,a6⟩,hH⟩ := hA (m - 1) (by omega) (s := { s3 with o := s3.o + 1 }) hok e1 (by show s3.i <= _; omega) e3 (by show s3.o + 1 + (m - 1) = 20; omega) hH;refine qv hev ?_;refine zQ 2 ?_;have a1 : s4.o = s3.o + 1 := a1;have a3 : s3.i <= s4.i := a3;have a6 : l.length <= 4 * (s4.i - s3.i) + 1 := a6;have hla := (nl_sl a5).arg N S2;refine zQ 6 ?_;refine EvO.subZ (z := ((s.o : Nat) : Int)) rfl (ev rfl) (ev rfl) (by (try simp only [List.length_reverse,List.length_cons,List.length_nil,List.length_append,List.length_map,List.length_set]); rw [wrap_i64 (by omega) (by omega)] <;> omega) (put_T rfl _) ?_;refine zQ 2 ?_;refine qT hH at0 fun st hH => ?_;dsimp only [u2,u1,u3,u4,setMany,u5,u6,D.cells,Nat.reduceAdd,prsC,gotC,intC,rangeC,nodC] at hH;refine zQ 1 ?_
   obtain ⟨s5,hs5⟩ : ∃ s5 : Prs,({ s4 with o := s.o } : Prs) = s5 := ⟨_,rfl⟩
   have hH : Has N S2 st (.box k (.mem 0 false (prsC gs plD s5)) :: .lst plD 1 (pls.map intC) :: .box k5 (.mem 0 false [.int .i64 6, .nul, .int .i64 0, .int .i64 0, .bool false, .int .i64 cap, .int .i64 1]) :: H) := by rw [<- hs5]; exact hH
   have hs5f : s5.o = s.o /\ s5.g = s4.g /\ s5.i = s4.i := by rw [<- hs5]; exact ⟨rfl,rfl,rfl⟩
   clear hs5;obtain ⟨b1,b2,b3⟩ := hs5f;refine zQ 2 ?_;refine EvC.merge3 (fun fr st => ∃ (s6 : Prs) (tmp : List (Nat × D)),fr = ⟨7, [.ptr k 0 0,ixF_Ph fr 1,ixF_Ph fr 2,ixF_Ph fr 3, .bool free, .ptr k5 0 0,nlD l],tmp⟩ /\ Has N S2 st (.box k (.mem 0 false (prsC gs plD s6)) :: .lst plD 1 (pls.map intC) :: .box k5 (.mem 0 false [.int .i64 6, .nul, .int .i64 0, .int .i64 0, .bool false, .int .i64 cap, .int .i64 1]) :: H) /\ (s6.o = s.o) /\ (s6.g <= 4) /\ (s4.i <= s6.i) /\ (s6.i <= gs.length) /\ (s6.e ≠ 0 \/ s6.e = 0 /\ s4.i < s6.i)) ?_ ?_
   ·by_cases he5 : s5.e = 0
    ·have hg5 : (s5.e == 0) = true := by simpa using he5
     obtain ⟨k1,k2,k3,k4,k5'⟩ := skip_i (gs := gs) (s := s5) (r := 41);have k5' := k5' (by omega);have hsk : isS gs s5.i 41 = true -> (skipS gs s5 41).i = s5.i + 1 := fun h => by unfold skipS; rw [if_pos h]
     refine zQ 8 ?_;obtain ⟨_,st,hev,rfl,hH⟩ := skip_ev (s := s5) (by omega) 41 hH;refine qv hev ?_ (hg := wi hg5);refine zQ 3 ?_;generalize skipS gs s5 41 = s6 at *
     cases hb : isS gs s5.i 41 with
     | false =>
      refine zQ 5 ?_;obtain ⟨_,st,hev,rfl,s7,hN,hH⟩ := hwr _ s6 4 _ (by decide) (by omega) (by omega) (by omega) (by omega) (by omega) hH;refine qv hev ?_;refine zQ 2 ?_;refine EvC.ret ⟨rx,_,_,_,rfl,leaveD_rw (rfl),?_⟩;exact ⟨s7,hN,hH0.leaveRw1 hS2 (hH.erase 2)⟩
     | true =>
      have hsk := hsk hb;refine zQ 2 ?_;exact ⟨s6,_,rfl,hH,by omega,by omega,by omega,by omega, .inr ⟨by omega,by omega⟩⟩
    ·have hg5 : (s5.e == 0) = false := by simpa using he5
     refine zQ 14 ?_;exact ⟨s5,_,rfl,hH,b1,by omega,by omega,by omega, .inl he5⟩
   ·rintro fr st ⟨s6,tmp,hfr,hH,c1,c2,c3,c4,c5⟩;rw [hfr];clear hfr;generalize ixF_Ph fr = ee;clear fr;refine zQ 5 ?_
    cases free with
    | true =>
     refine zQ 6 ?_;refine EvC.ret ⟨rx,_,_,_,rfl,leaveD_rw (rfl),?_⟩;refine ⟨s6,⟨c1,c2,by omega,c4,l,rfl,a5,by omega,?_⟩,hH0.leaveRw1 hS2 (hH.erase 2)⟩
     rcases c5 with c5 | ⟨c5,c6⟩
     ·exact .inl c5
     ·exact .inr ⟨c5,by omega⟩
    | false =>
     refine zQ 4 ?_;refine EvO.hloadS (m := 7) hH rfl (ev rfl) (by exact at2) (by dsimp only [List.drop_succ_cons,List.drop_zero,List.take_succ_cons,List.take_zero,prsC,gotC,intC,rangeC,nodC] <;> rfl) rfl rfl (put_T rfl _) ?_;refine qh (s := 7) (vs := [_]) hH fun k89 st hk89 hH => ?_;dsimp only [u2,u1,u3,u4,setMany,u5,u6,D.cells,Nat.reduceAdd,prsC,gotC,intC,rangeC,nodC] at hH;refine qm ?_;refine EvO.happend5 (s := 7) hH rfl (ev rfl) (ev rfl) at0 ((nl_sl a5).rows st) rfl rfl rfl rfl rfl rfl rfl ⟨(Nat.le_of_ble_eq_true rfl),(Nat.le_of_ble_eq_true rfl)⟩ (fun _ => (put_T rfl _)) (by simp only [List.length_map,List.length_cons,List.length_nil]; omega) (.inr (nod_refs0 a5)) (fun k hk => by have hk' : k89 + 1 = k + 1 := hk; omega) (fun x91 st hod hH => ?_);dsimp only [u2] at hH;refine zQ 2 ?_;have hH : Has N S2 st (.lst x91 7 ([.int .i64 6, .nul, .int .i64 0, .int .i64 0, .bool false, .int .i64 cap, .int .i64 1] :: l.map nodC) :: .box k (.mem 0 false (prsC gs plD s6)) :: .lst plD 1 (pls.map intC) :: .box k5 (.mem 0 false [.int .i64 6, .nul, .int .i64 0, .int .i64 0, .bool false, .int .i64 cap, .int .i64 1]) :: H) := hH
     have hfz := has_freezeN (L := s0.bs.length) (l := mkNd 6 0 0 false cap 1 [] :: l) hH at0 (by rw [List.map_cons,nod_frz a5]; rfl) (fun e he d hd => by
      rcases List.mem_cons.1 he with rfl | he
      ·simp only [List.mem_cons,List.not_mem_nil,or_false] at hd
       rcases hd with rfl | rfl | rfl | rfl | rfl | rfl | rfl <;> rfl
      ·exact nod_tell a5 e he d hd) (fun k hk => by rw [<- hS2]; exact hod k hk) (n := 16) (by decide)
     refine EvC.ret ⟨rx,_,_,_,rfl,leaveD_rw hfz,⟨s6,⟨c1,c2,by omega,c4,_,rfl,?_,by simp only [List.length_cons]; omega,?_⟩,hH0.leaveRw1 hS2 ((hH.drop 1).erase 2)⟩⟩
     ·intro n hn
      rcases List.mem_cons.1 hn with rfl | hn
      ·exact ⟨rfl,by simp [mkNd],by simp [mkNd]⟩
      ·exact a5 n hn
     ·rcases c5 with c5 | ⟨c5,c6⟩
      ·exact .inl c5
      ·exact .inr ⟨c5,by simp only [List.length_cons]; omega⟩
end Go.Proofs.Ytnleclohocdkaaa
namespace Go.Proofs.Ytnleclohocdkaaa
open Go.V Go
def ixF_Pi (fr : Go.V.Fr) (k : Nat) : Go.V.D := Go.V.nth .junk fr.loc k
theorem skip_no {gs : List (Nat × Nat)} {s : Prs} {r : Int} (h : isS gs s.i r = false) : skipS gs s r = s := by
 unfold skipS; rw [if_neg (by rw [h]; simp)]
theorem skip_yes {gs : List (Nat × Nat)} {s : Prs} {r : Int} (h : isS gs s.i r = true) : (skipS gs s r).i = s.i + 1 := by
 unfold skipS; rw [if_pos h]
theorem atom_ev {m : Nat} (hA : ∀ m',m' + 1 = m -> AltSpec m') {N k : Nat} {S s0 : St} {H : List Ent} {gs : List (Nat × Nat)} {plD : D} {pls : List Int} {s : Prs} (hok : PrsOk gs pls) (he : s.e = 0) (hi : s.i < gs.length) (hg : s.g <= 4) (ho : s.o + m = 20) (hH : Has N S s0 (.box k (.mem 0 false (prsC gs plD s)) :: .lst plD 1 (pls.map intC) :: H)) :
  ∃ d st',Ev pv 111 [.ptr k 0 0] s0 d st' /\ ∃ (s' : Prs),NodesP gs s s' d 2 /\ Has N S st' (.box k (.mem 0 false (prsC gs plD s')) :: .lst plD 1 (pls.map intC) :: H) := by
 have hgl := hok.gl;have hpl := hok.pl;refine Ev.mkE rfl fi111 rfl rfl rfl ?_;refine zE ?_;have hH0 := hH;have hH := hH.enterRw;have hS2 : (enterSt .rw s0).bs = s0.bs := rfl;generalize enterSt .rw s0 = S2 at *;have hgr : Arg N S2 2 (gotsD gs) (gs.map gotC) := Arg.pure (fun st => gots_rows st gs)
 obtain ⟨g,hgg⟩ : ∃ g,gs[s.i]? = some g := ⟨gs[s.i]'hi,List.getElem?_eq_getElem _⟩
 have hr1 : (gs.map gotC)[s.i]? = some (gotC g) := by rw [List.getElem?_map,hgg]; rfl
 have hwr : ∀ (st : St),Has N S2 st (.box k (.mem 0 false (prsC gs plD s)) :: .lst plD 1 (pls.map intC) :: H) -> ∃ d st',Ev pv 39 [.ptr k 0 0, .int .i64 (s.i : Nat), .int .i64 4] st d st' /\ d = .sl [] /\ ∃ s4,NodesP gs s s4 (.sl []) 2 /\ Has N S2 st' (.box k (.mem 0 false (prsC gs plD s4)) :: .lst plD 1 (pls.map intC) :: H) := by
  intro st hH;obtain ⟨d,st',hev,h6,hH⟩ := wrong_ev (s := s) s.i 4 (by omega) hH;obtain ⟨w1,w2,w3,w4⟩ := wrongS_e (pls := pls) (s := s) (i := s.i) (e := 4) he (by decide);exact ⟨d,st',hev,h6,_,nodes_nil w3 (by omega) (by omega) (by omega) w1,hH⟩
 have hone : ∀ (st : St) (s1 : Prs) (op : Int) (w : D) (a : List Rg) (kk : Nat),(w = rangesV a \/ w = .nul /\ a = []) -> a.length <= 1048576 -> s1.o = s.o -> s1.g <= 4 -> s.i < s1.i -> s1.i <= gs.length -> S2.bs.length <= kk -> Has N S2 st (.lst (.win kk 0 0 1 7) 7 [[.int .i64 op,w, .int .i64 0, .int .i64 0, .bool false, .int .i64 0, .int .i64 0]] :: .box k (.mem 0 false (prsC gs plD s1)) :: .lst plD 1 (pls.map intC) :: H) ->
   ∃ d st',leaveD .rw false s0 st (.win kk 0 0 1 7) = some (d,st') /\ ∃ (s' : Prs),NodesP gs s s' d 2 /\ Has N S st' (.box k (.mem 0 false (prsC gs plD s')) :: .lst plD 1 (pls.map intC) :: H) := by
  intro st s1 op w a kk hw ha h1 h2 h3 h4 hk hH;have hfz := has_freeze1 hH at0 (L := s0.bs.length) hw (fun k hk => by simp only [D.ref] at hk; rw [<- hS2]; omega);refine ⟨_,_,leaveD_rw hfz,s1,⟨h1,h2,by omega,h4,_,rfl,mk_v ha (by omega),by simp,?_⟩,hH0.leaveRw1 hS2 (hH.drop 1)⟩
  by_cases he : s1.e = 0
  ·exact .inr ⟨he,by simp only [List.length_cons,List.length_nil]; omega⟩
  ·exact .inl he
 refine zQ 17 ?_;obtain ⟨_,st,hev,rfl,hH⟩ := bad_ev (s := s) s.i hi hH;refine qv hev ?_;refine zQ 1 ?_;refine qc (fun hb => ?_) (fun hb => ?_) <;> try simp only [cs] at hb
 ·refine zQ 4 ?_;obtain ⟨_,st,hev,rfl,s4,hN,hH⟩ := hwr _ hH;refine qv hev ?_;refine zQ 2 ?_;refine EvC.ret ⟨rx,_,_,_,rfl,leaveD_rw (rfl),?_⟩;exact ⟨s4,hN,hH0.leaveRw1 hS2 hH⟩
 refine zQ 8 ?_;refine qr fun p22 hp22 => ?_;refine qf (fo := 0) fun p23 hp23 => ?_;refine zQ 13 ?_;refine zI (fun q40 => ?_) fun q40 => ?_
 ·refine zQ 3 ?_;obtain ⟨_,st,hev,s4,⟨p1,p2,p3,p4,l,rfl,p5,p6,p7⟩,hH⟩ := group_ev hA hok he hi hg ho hH;refine qv hev ?_;refine zQ 2 ?_;refine EvC.ret ⟨rx,_,_,_,rfl,leaveD_rw (rfl),?_⟩;exact ⟨s4,⟨p1,p2,p3,p4,l,rfl,p5,p6,p7⟩,hH0.leaveRw1 hS2 hH⟩
 refine zQ 5 ?_;refine zI (fun q91 => ?_) fun q91 => ?_
 ·refine zQ 3 ?_;obtain ⟨_,st,hev,s4,⟨p1,p2,p3,p4,l,rfl,p5,p6,p7⟩,hH⟩ := class_ev hok he hi hg hH;refine qv hev ?_;refine zQ 2 ?_;refine EvC.ret ⟨rx,_,_,_,rfl,leaveD_rw (rfl),?_⟩;exact ⟨s4,⟨p1,p2,p3,p4,l,rfl,p5,p6,p7⟩,hH0.leaveRw1 hS2 hH⟩
 refine zQ 5 ?_;refine zI (fun q92 => ?_) fun q92 => ?_
 ·refine zQ 3 ?_;obtain ⟨_,st,hev,d1,b,s4,rfl,⟨p1,p2,p3,p4,p5,p6⟩,hH⟩ := sign_ev (s := s) hok he hi hH;refine qv hev ?_;refine zQ 6 ?_
  have hend : ∀ (st : St) (w : D) (a : List Rg) (kk : Nat),(w = rangesV a \/ w = .nul /\ a = []) -> a.length <= 8 -> S2.bs.length <= kk -> Has N S2 st (.lst (.win kk 0 0 1 7) 7 [[.int .i64 2,w, .int .i64 0, .int .i64 0, .bool false, .int .i64 0, .int .i64 0]] :: .box k (.mem 0 false (prsC gs plD s4)) :: .lst plD 1 (pls.map intC) :: H) -> ∃ d st',leaveD .rw false s0 st (.win kk 0 0 1 7) = some (d,st') /\ ∃ (s' : Prs),NodesP gs s s' d 2 /\ Has N S st' (.box k (.mem 0 false (prsC gs plD s')) :: .lst plD 1 (pls.map intC) :: H) := by
   intro st w a kk hw ha hk hH;have hfz := has_freeze1 hH at0 (L := s0.bs.length) hw (fun k hk => by simp only [D.ref] at hk; rw [<- hS2]; omega);refine ⟨_,_,leaveD_rw hfz,s4,⟨p1,by omega,by omega,p4,_,rfl,mk_v (by omega) (by omega),by simp,?_⟩,hH0.leaveRw1 hS2 (hH.drop 1)⟩
   rcases p6 with p6 | ⟨p6,p7,_⟩
   ·exact .inl p6
   ·exact .inr ⟨p6,by simp only [List.length_cons,List.length_nil]; omega⟩
  rcases p5 with rfl | ⟨a,rfl,ha⟩
  ·refine zQ 3 ?_;refine EvO.ones (qs := [(0,_),(1,_)]) rfl rfl rfl rfl ⟨rfl,(ev rfl),(by rfl),rfl,(ev rfl),(by rfl),trivial⟩ (by intro q hq; simp only [List.mem_cons,List.not_mem_nil,or_false] at hq; rcases hq with rfl | rfl <;> exact ⟨rfl,by exact Nat.le_of_ble_eq_true rfl⟩) (by show List.foldl _ [_,_,_,_,_,_,_] _ = _; dsimp only [List.foldl_cons,List.foldl_nil,u2,u1] <;> rfl) (put_T rfl _) ?_;refine qh (s := 7) (vs := [_]) hH fun k54 st hk54 hH => ?_;dsimp only [u2,u1,u3,u4,setMany,u5,u6,D.cells,Nat.reduceAdd,prsC,gotC,intC,rangeC,nodC] at hH;refine zQ 2 ?_;obtain ⟨d',st',hld,hrest⟩ := hend _ .nul [] k54 (.inr ⟨rfl,rfl⟩) (by simp) hk54 hH;refine EvC.ret ⟨rx,_,d',st',rfl,hld,hrest⟩
  ·refine zQ 3 ?_;refine EvO.ones (qs := [(0,_),(1,_)]) rfl rfl rfl rfl ⟨rfl,(ev rfl),(by rfl),rfl,(ev rfl),(by rfl),trivial⟩ (by intro q hq; simp only [List.mem_cons,List.not_mem_nil,or_false] at hq; rcases hq with rfl | rfl <;> exact ⟨rfl,by exact Nat.le_of_ble_eq_true rfl⟩) (by show List.foldl _ [_,_,_,_,_,_,_] _ = _; dsimp only [List.foldl_cons,List.foldl_nil,u2,u1] <;> rfl) (put_T rfl _) ?_;refine qh (s := 7) (vs := [_]) hH fun k54 st hk54 hH => ?_;dsimp only [u2,u1,u3,u4,setMany,u5,u6,D.cells,Nat.reduceAdd,prsC,gotC,intC,rangeC,nodC] at hH;refine zQ 2 ?_;obtain ⟨d',st',hld,hrest⟩ := hend _ (rangesV a) a k54 (.inl rfl) ha hk54 hH;refine EvC.ret ⟨rx,_,d',st',rfl,hld,hrest⟩
 refine zQ 5 ?_;refine zI (fun q46 => ?_) fun q46 => ?_
 ·refine zQ 9 ?_;refine qT hH at0 fun st hH => ?_;dsimp only [u2,u1,u3,u4,setMany,u5,u6,D.cells,Nat.reduceAdd,prsC,gotC,intC,rangeC,nodC] at hH;refine zQ 1 ?_;obtain ⟨_,hdot,a,rfl,hla⟩ := dot_ev (s0 := st);refine zQ 2 ?_;refine qv (hdot) ?_;refine EvO.ones (qs := [(0,_),(1,_)]) rfl rfl rfl rfl ⟨rfl,(ev rfl),(by rfl),rfl,(ev rfl),(by rfl),trivial⟩ (by intro q hq; simp only [List.mem_cons,List.not_mem_nil,or_false] at hq; rcases hq with rfl | rfl <;> exact ⟨rfl,by exact Nat.le_of_ble_eq_true rfl⟩) (by show List.foldl _ [_,_,_,_,_,_,_] _ = _; dsimp only [List.foldl_cons,List.foldl_nil,u2,u1] <;> rfl) (put_T rfl _) ?_;refine qh (s := 7) (vs := [_]) hH fun k66 st hk66 hH => ?_;refine zQ 2 ?_;obtain ⟨d',st',hld,hrest⟩ := hone _ { s with i := s.i + 1 } 2 (rangesV a) a k66 (.inl rfl) (by omega) rfl hg (by show s.i < s.i + 1; omega) (by show s.i + 1 <= _; omega) hk66 hH;refine EvC.ret ⟨rx,_,d',st',rfl,hld,hrest⟩
 refine zQ 5 ?_;refine zI (fun q94 => ?_) fun q94 => ?_
 ·refine zQ 9 ?_;refine qT hH at0 fun st hH => ?_;dsimp only [u2,u1,u3,u4,setMany,u5,u6,D.cells,Nat.reduceAdd,prsC,gotC,intC,rangeC,nodC] at hH;refine zQ 3 ?_;refine EvO.go (d := .agg [.int .i64 7, .nul, .int .i64 0, .int .i64 0, .bool false, .int .i64 0, .int .i64 0]) (st1 := _) rfl rfl rfl (put_T rfl _) ?_;refine qh (s := 7) (vs := [_]) hH fun k77 st hk77 hH => ?_;refine zQ 2 ?_;obtain ⟨d',st',hld,hrest⟩ := hone _ { s with i := s.i + 1 } 7 .nul [] k77 (.inr ⟨rfl,rfl⟩) (by simp) rfl hg (by show s.i < s.i + 1; omega) (by show s.i + 1 <= _; omega) hk77 hH;refine EvC.ret ⟨rx,_,d',st',rfl,hld,hrest⟩
 refine zQ 5 ?_;refine zI (fun q36 => ?_) fun q36 => ?_
 ·refine zQ 9 ?_;refine qT hH at0 fun st hH => ?_;dsimp only [u2,u1,u3,u4,setMany,u5,u6,D.cells,Nat.reduceAdd,prsC,gotC,intC,rangeC,nodC] at hH;refine zQ 3 ?_;refine EvO.go (d := .agg [.int .i64 8, .nul, .int .i64 0, .int .i64 0, .bool false, .int .i64 0, .int .i64 0]) (st1 := _) rfl rfl rfl (put_T rfl _) ?_;refine qh (s := 7) (vs := [_]) hH fun k88 st hk88 hH => ?_;refine zQ 2 ?_;obtain ⟨d',st',hld,hrest⟩ := hone _ { s with i := s.i + 1 } 8 .nul [] k88 (.inr ⟨rfl,rfl⟩) (by simp) rfl hg (by show s.i < s.i + 1; omega) (by show s.i + 1 <= _; omega) hk88 hH;refine EvC.ret ⟨rx,_,d',st',rfl,hld,hrest⟩
 refine zQ 6 ?_
 by_cases c42 : ((g.1 : Nat) : Int) = 42
 ·refine qD rfl (by simp [c42]) ?_;refine zQ 1 ?_;refine qD rfl (by simp [c42]) ?_;refine zQ 4 ?_;obtain ⟨_,st,hev,rfl,s4,hN,hH⟩ := hwr _ hH;refine qv hev ?_;refine zQ 2 ?_;refine EvC.ret ⟨rx,_,_,_,rfl,leaveD_rw (rfl),?_⟩;exact ⟨s4,hN,hH0.leaveRw1 hS2 hH⟩
 refine qE rfl (by simp [c42]) ?_;refine zQ 5 ?_
 by_cases c43 : ((g.1 : Nat) : Int) = 43
 ·refine qD rfl (by simp [c43]) ?_;refine zQ 1 ?_;refine qD rfl (by simp [c43]) ?_;refine zQ 4 ?_;obtain ⟨_,st,hev,rfl,s4,hN,hH⟩ := hwr _ hH;refine qv hev ?_;refine zQ 2 ?_;refine EvC.ret ⟨rx,_,_,_,rfl,leaveD_rw (rfl),?_⟩;exact ⟨s4,hN,hH0.leaveRw1 hS2 hH⟩
 refine qE rfl (by simp [c43]) ?_;refine zQ 5 ?_
 by_cases c63 : ((g.1 : Nat) : Int) = 63
 ·refine qD rfl (by simp [c63]) ?_;refine zQ 1 ?_;refine qD rfl (by simp [c63]) ?_;refine zQ 4 ?_;obtain ⟨_,st,hev,rfl,s4,hN,hH⟩ := hwr _ hH;refine qv hev ?_;refine zQ 2 ?_;refine EvC.ret ⟨rx,_,_,_,rfl,leaveD_rw (rfl),?_⟩;exact ⟨s4,hN,hH0.leaveRw1 hS2 hH⟩
 refine qE rfl (by simp [c63]) ?_;refine zQ 5 ?_
 by_cases c41 : ((g.1 : Nat) : Int) = 41
 ·refine qD rfl (by simp [c41]) ?_;refine zQ 1 ?_;refine qD rfl (by simp [c41]) ?_;refine zQ 4 ?_;obtain ⟨_,st,hev,rfl,s4,hN,hH⟩ := hwr _ hH;refine qv hev ?_;refine zQ 2 ?_;refine EvC.ret ⟨rx,_,_,_,rfl,leaveD_rw (rfl),?_⟩;exact ⟨s4,hN,hH0.leaveRw1 hS2 hH⟩
 refine qE rfl (by simp [c41]) ?_;refine zQ 5 ?_
 by_cases c93 : ((g.1 : Nat) : Int) = 93
 ·refine qD rfl (by simp [c93]) ?_;refine zQ 1 ?_;refine qD rfl (by simp [c93]) ?_;refine zQ 4 ?_;obtain ⟨_,st,hev,rfl,s4,hN,hH⟩ := hwr _ hH;refine qv hev ?_;refine zQ 2 ?_;refine EvC.ret ⟨rx,_,_,_,rfl,leaveD_rw (rfl),?_⟩;exact ⟨s4,hN,hH0.leaveRw1 hS2 hH⟩
 refine qE rfl (by simp [c93]) ?_;refine zQ 5 ?_
 by_cases c123 : ((g.1 : Nat) : Int) = 123
 ·refine qD rfl (by simp [c123]) ?_;refine zQ 1 ?_;refine qD rfl (by simp [c123]) ?_;refine zQ 4 ?_;obtain ⟨_,st,hev,rfl,s4,hN,hH⟩ := hwr _ hH;refine qv hev ?_;refine zQ 2 ?_;refine EvC.ret ⟨rx,_,_,_,rfl,leaveD_rw (rfl),?_⟩;exact ⟨s4,hN,hH0.leaveRw1 hS2 hH⟩
 refine qE rfl (by simp [c123]) ?_;refine zQ 5 ?_
 by_cases c125 : ((g.1 : Nat) : Int) = 125
 ·refine qD rfl (by simp [c125]) ?_;refine zQ 1 ?_;refine qD rfl (by simp [c125]) ?_;refine zQ 4 ?_;obtain ⟨_,st,hev,rfl,s4,hN,hH⟩ := hwr _ hH;refine qv hev ?_;refine zQ 2 ?_;refine EvC.ret ⟨rx,_,_,_,rfl,leaveD_rw (rfl),?_⟩;exact ⟨s4,hN,hH0.leaveRw1 hS2 hH⟩
 refine qE rfl (by simp [c125]) ?_;refine zQ 4 ?_
 by_cases c124 : ((g.1 : Nat) : Int) = 124
 ·refine qD rfl (by simp [c124]) ?_;refine zQ 4 ?_;obtain ⟨_,st,hev,rfl,s4,hN,hH⟩ := hwr _ hH;refine qv hev ?_;refine zQ 2 ?_;refine EvC.ret ⟨rx,_,_,_,rfl,leaveD_rw (rfl),?_⟩;exact ⟨s4,hN,hH0.leaveRw1 hS2 hH⟩
 refine qE rfl (by simp [c124]) ?_;refine zQ 9 ?_;refine qT hH at0 fun st hH => ?_;dsimp only [u2,u1,u3,u4,setMany,u5,u6,D.cells,Nat.reduceAdd,prsC,gotC,intC,rangeC,nodC] at hH;refine zQ 1 ?_;obtain ⟨_,hml,_⟩ := mk_ev (s0 := s0) (x := rangesV [(((g.1 : Nat) : Int),((g.1 : Nat) : Int))]) (l := [(((g.1 : Nat) : Int),((g.1 : Nat) : Int))]) (rangesV_rows _ _) (by simp);simp only [List.length_cons,List.length_nil] at hml;refine zQ 3 ?_;refine qv (single_ev _) ?_;refine EvO.ones (qs := [(0,_),(1,_)]) rfl rfl rfl rfl ⟨rfl,(ev rfl),(by rfl),rfl,(ev rfl),(by rfl),trivial⟩ (by intro q hq; simp only [List.mem_cons,List.not_mem_nil,or_false] at hq; rcases hq with rfl | rfl <;> exact ⟨rfl,by exact Nat.le_of_ble_eq_true rfl⟩) (by show List.foldl _ [_,_,_,_,_,_,_] _ = _; dsimp only [List.foldl_cons,List.foldl_nil,u2,u1] <;> rfl) (put_T rfl _) ?_;refine qh (s := 7) (vs := [_]) hH fun k36 st hk36 hH => ?_;refine zQ 2 ?_;obtain ⟨d',st',hld,hrest⟩ := hone _ { s with i := s.i + 1 } 2 _ _ k36 (.inl rfl) (by omega) rfl hg (by show s.i < s.i + 1; omega) (by show s.i + 1 <= _; omega) hk36 hH;refine EvC.ret ⟨rx,_,d',st',rfl,hld,hrest⟩
theorem rep_ev {m : Nat} (hA : ∀ m',m' + 1 = m -> AltSpec m') {N k : Nat} {S s0 : St} {H : List Ent} {gs : List (Nat × Nat)} {plD : D} {pls : List Int} {s : Prs} (hok : PrsOk gs pls) (he : s.e = 0) (hi : s.i < gs.length) (hg : s.g <= 4) (ho : s.o + m = 20) (hH : Has N S s0 (.box k (.mem 0 false (prsC gs plD s)) :: .lst plD 1 (pls.map intC) :: H)) :
  ∃ d st',Ev pv 99 [.ptr k 0 0] s0 d st' /\ ∃ (s' : Prs),NodesP gs s s' d 1 /\ Has N S st' (.box k (.mem 0 false (prsC gs plD s')) :: .lst plD 1 (pls.map intC) :: H) := by
 have hgl := hok.gl;have hpl := hok.pl;refine Ev.mkE rfl fi99 rfl rfl rfl ?_;refine zE ?_;have hH0 := hH;have hH := hH.enterRw;have hS2 : (enterSt .rw s0).bs = s0.bs := rfl;generalize enterSt .rw s0 = S2 at *;refine zQ 7 ?_;obtain ⟨_,st,hev,s1,⟨p1,p2,p3,p4,l,rfl,p5,p6,p7⟩,hH⟩ := atom_ev hA hok he hi hg ho hH;refine qv hev ?_;refine zQ 11 ?_
 rcases p7 with p7 | ⟨p7,p8⟩
 ·refine qD rfl (by simp [p7]) ?_;refine zQ 4 ?_;refine EvC.ret ⟨rx,_,_,_,rfl,leaveD_rw (rfl),?_⟩;exact ⟨s1,nodes_nil p1 p2 p3 p4 p7,hH0.leaveRw1 hS2 hH⟩
 refine qE rfl (by simp [p7]) ?_;refine zQ 3 ?_;refine EvO.go (d := .agg [.int .i64 5, .nul, .int .i64 0, .int .i64 0, .bool false, .int .i64 0, .int .i64 1]) (st1 := _) rfl rfl rfl (put_T rfl _) ?_;refine qa hH fun k4 st hk4 hH => ?_;dsimp only [u2,u1,u3,u4,setMany,u5,u6,D.cells,Nat.reduceAdd,prsC,gotC,intC,rangeC,nodC] at hH;refine qS hH at0 fun st hH => ?_;dsimp only [u2,u1,u3,u4,setMany,u5,u6,D.cells,Nat.reduceAdd,prsC,gotC,intC,rangeC,nodC] at hH;refine zQ 1 ?_;have hH : Has N S2 st (.box k (.mem 0 false (prsC gs plD s1)) :: .lst plD 1 (pls.map intC) :: .box k4 (.mem 0 false [.int .i64 5, .nul, .int .i64 0, .int .i64 0, .bool false, .int .i64 0, .int .i64 1]) :: H) := Has_rot3 hH;refine qq ?_;refine EvC.merge (fun fr st => ∃ (mn mx : Int) (s2 : Prs) (tmp : List (Nat × D)),fr = ⟨5, [.ptr k 0 0,ixF_Pi fr 1,ixF_Pi fr 2,nlD l, .ptr k4 0 0],tmp⟩ /\ Has N S2 st (.box k (.mem 0 false (prsC gs plD s2)) :: .lst plD 1 (pls.map intC) :: .box k4 (.mem 0 false [.int .i64 5, .nul, .int .i64 mn, .int .i64 mx, .bool false, .int .i64 0, .int .i64 1]) :: H) /\ (s2.o = s.o) /\ (s2.g <= 4) /\ (s1.i < s2.i) /\ (s2.i <= gs.length)) ?_ ?_
 ·refine zQ 4 ?_;obtain ⟨_,st,hev,rfl,hH⟩ := skip_ev (s := s1) (by omega) 42 hH;refine qv hev ?_;refine zQ 2 ?_
  cases hb1 : isS gs s1.i 42 with
  | true =>
   obtain ⟨k1,k2,k3,k4',k5⟩ := skip_i (gs := gs) (s := s1) (r := 42);have k6 := skip_yes hb1;have k7 := k5 p4;generalize skipS gs s1 42 = s2 at *;refine zQ 3 ?_;refine qT hH at2 fun st hH => ?_;dsimp only [u2,u1,u3,u4,setMany,u5,u6,D.cells,Nat.reduceAdd,prsC,gotC,intC,rangeC,nodC] at hH;refine zQ 1 ?_;exact ⟨0, -1,s2,_,rfl,hH,by omega,by omega,by omega,k7⟩
  | false =>
   rw [skip_no hb1] at hH;refine zQ 4 ?_;obtain ⟨_,st,hev,rfl,hH⟩ := skip_ev (s := s1) (by omega) 43 hH;refine qv hev ?_;refine zQ 2 ?_
   cases hb2 : isS gs s1.i 43 with
   | true =>
    obtain ⟨k1,k2,k3,k4',k5⟩ := skip_i (gs := gs) (s := s1) (r := 43);have k6 := skip_yes hb2;have k7 := k5 p4;generalize skipS gs s1 43 = s2 at *;refine zQ 3 ?_;refine qT hH at2 fun st hH => ?_;dsimp only [u2,u1,u3,u4,setMany,u5,u6,D.cells,Nat.reduceAdd,prsC,gotC,intC,rangeC,nodC] at hH;refine zQ 1 ?_;refine qT hH at2 fun st hH => ?_;dsimp only [u2,u1,u3,u4,setMany,u5,u6,D.cells,Nat.reduceAdd,prsC,gotC,intC,rangeC,nodC] at hH;refine zQ 1 ?_;exact ⟨1, -1,s2,_,rfl,hH,by omega,by omega,by omega,k7⟩
   | false =>
    rw [skip_no hb2] at hH;refine zQ 4 ?_;obtain ⟨_,st,hev,rfl,hH⟩ := skip_ev (s := s1) (by omega) 63 hH;refine qv hev ?_;refine zQ 2 ?_
    cases hb3 : isS gs s1.i 63 with
    | true =>
     obtain ⟨k1,k2,k3,k4',k5⟩ := skip_i (gs := gs) (s := s1) (r := 63);have k6 := skip_yes hb3;have k7 := k5 p4;generalize skipS gs s1 63 = s2 at *;refine zQ 3 ?_;refine qT hH at2 fun st hH => ?_;dsimp only [u2,u1,u3,u4,setMany,u5,u6,D.cells,Nat.reduceAdd,prsC,gotC,intC,rangeC,nodC] at hH;refine zQ 1 ?_;exact ⟨0,1,s2,_,rfl,hH,by omega,by omega,by omega,k7⟩
    | false =>
     rw [skip_no hb3] at hH;refine zQ 4 ?_;obtain ⟨_,st,hev,rfl,hH⟩ := is_ev (s := s1) (by omega) 123 hH;refine qv hev ?_;refine zQ 2 ?_
     cases hb4 : isS gs s1.i 123 with
     | true =>
      have hlt := isS_lt hb4;refine zQ 3 ?_;obtain ⟨_,st,hev,n1,n2,s2,rfl,⟨m1,m2,m3,m4⟩,hH⟩ := often_ev hok p7 hlt hH;refine qv hev ?_;refine zQ 4 ?_;refine qT hH at2 fun st hH => ?_;dsimp only [u2,u1,u3,u4,setMany,u5,u6,D.cells,Nat.reduceAdd,prsC,gotC,intC,rangeC,nodC] at hH;refine zQ 1 ?_;refine qT hH at2 fun st hH => ?_;dsimp only [u2,u1,u3,u4,setMany,u5,u6,D.cells,Nat.reduceAdd,prsC,gotC,intC,rangeC,nodC] at hH;refine zQ 1 ?_;exact ⟨n1,n2,s2,_,rfl,hH,by omega,by omega,m3,m4⟩
     | false =>
      refine zQ 6 ?_;refine EvC.ret ⟨rx,_,_,_,rfl,leaveD_rw (rfl),?_⟩;exact ⟨s1,⟨p1,p2,p3,p4,l,rfl,p5,p6, .inr ⟨p7,by omega⟩⟩,hH0.leaveRw1 hS2 (hH.erase 2)⟩
 ·rintro fr st ⟨mn,mx,s2,tmp,hfr,hH,h1,h2,h3,h4⟩;rw [hfr];clear hfr;generalize ixF_Pi fr = ee;clear fr;refine zQ 9 ?_
  by_cases he2 : s2.e = 0
  ·refine qE rfl (by simp [he2]) ?_;refine zQ 1 ?_;obtain ⟨k1,k2,k3,k4',k5⟩ := skip_i (gs := gs) (s := s2) (r := 63);have k7 := k5 h4;refine zQ 3 ?_;obtain ⟨_,st,hev,rfl,hH⟩ := skip_ev (s := s2) (by omega) 63 hH;refine qv hev ?_;refine zQ 1 ?_;refine qT hH at2 fun st hH => ?_;dsimp only [u2,u1,u3,u4,setMany,u5,u6,D.cells,Nat.reduceAdd,prsC,gotC,intC,rangeC,nodC] at hH;refine zQ 1 ?_;generalize skipS gs s2 63 = s3 at *;generalize isS gs s2.i 63 = lz at *;have hla := (nl_sl p5).arg N S2;refine zQ 2 ?_;refine EvO.hloadS (m := 7) hH rfl (ev rfl) (by exact at2) (by dsimp only [List.drop_succ_cons,List.drop_zero,List.take_succ_cons,List.take_zero,prsC,gotC,intC,rangeC,nodC] <;> rfl) rfl rfl (put_T rfl _) ?_;refine qh (s := 7) (vs := [_]) hH fun k46 st hk46 hH => ?_;refine qm ?_;refine EvO.happend5 (s := 7) hH rfl (ev rfl) (ev rfl) at0 ((nl_sl p5).rows st) rfl rfl rfl rfl rfl rfl rfl ⟨(Nat.le_of_ble_eq_true rfl),(Nat.le_of_ble_eq_true rfl)⟩ (fun _ => (put_T rfl _)) (by simp only [List.length_map,List.length_cons,List.length_nil]; omega) (.inr (nod_refs0 p5)) (fun k hk => by have hk' : k46 + 1 = k + 1 := hk; omega) (fun x48 st hod hH => ?_);dsimp only [u2] at hH;refine zQ 2 ?_;have hH : Has N S2 st (.lst x48 7 ([.int .i64 5, .nul, .int .i64 mn, .int .i64 mx, .bool lz, .int .i64 0, .int .i64 1] :: l.map nodC) :: .box k (.mem 0 false (prsC gs plD s3)) :: .lst plD 1 (pls.map intC) :: .box k4 (.mem 0 false [.int .i64 5, .nul, .int .i64 mn, .int .i64 mx, .bool lz, .int .i64 0, .int .i64 1]) :: H) := hH
   have hfz := has_freezeN (L := s0.bs.length) (l := mkNd 5 mn mx lz 0 1 [] :: l) hH at0 (by rw [List.map_cons,nod_frz p5]; rfl) (fun e he d hd => by
    rcases List.mem_cons.1 he with rfl | he
    ·simp only [List.mem_cons,List.not_mem_nil,or_false] at hd
     rcases hd with rfl | rfl | rfl | rfl | rfl | rfl | rfl <;> rfl
    ·exact nod_tell p5 e he d hd) (fun k hk => by rw [<- hS2]; exact hod k hk) (n := 16) (by decide)
   refine EvC.ret ⟨rx,_,_,_,rfl,leaveD_rw hfz,⟨s3,⟨by omega,by omega,by omega,k7,_,rfl,?_,by simp only [List.length_cons]; omega, .inr ⟨by omega,by simp only [List.length_cons]; omega⟩⟩,hH0.leaveRw1 hS2 ((hH.drop 1).erase 2)⟩⟩;intro n hn
   rcases List.mem_cons.1 hn with rfl | hn
   ·exact ⟨rfl,by simp [mkNd],by simp [mkNd]⟩
   ·exact p5 n hn
  ·refine qD rfl (by simp [he2]) ?_;refine zQ 4 ?_;refine EvC.ret ⟨rx,_,_,_,rfl,leaveD_rw (rfl),?_⟩;exact ⟨s2,nodes_nil h1 h2 (by omega) h4 he2,hH0.leaveRw1 hS2 (hH.erase 2)⟩
end Go.Proofs.Ytnleclohocdkaaa
