/-
  Patterns as trees; the code of a tree; how many instructions it has.
-/
import Derived.Test.YtbdilgkfnacahaaJm
namespace Go.Proofs.Ytbdilgkfnacahaa
open Go.V Go
set_option maxRecDepth 100000
set_option linter.unusedSimpArgs false
set_option linter.unusedVariables false

/-- a node, its ranges as they are handed over -/
structure Nod where
  op : Int
  rd : D
  rs : List Rg
  mn : Int
  mx : Int
  lz : Bool
  cap : Int
  kids : Int
def nodC (n : Nod) : List D := [.int .i64 n.op, n.rd, .int .i64 n.mn, .int .i64 n.mx, .bool n.lz, .int .i64 n.cap, .int .i64 n.kids]
def Nod.ok (n : Nod) : Prop := SlD n.rd 2 (n.rs.map rangeC) ∧ n.rs.length ≤ 1048576 ∧ n.kids ≤ 9223372036854775807
/-- a list of nodes, as it is handed over -/
structure Nl where
  d : D
  l : List Nod
structure Nl.ok (x : Nl) : Prop where
  c : SlD x.d 7 (x.l.map nodC)
  i : ∀ n ∈ x.l, n.ok
  nl : x.l.length ≤ 1048576
theorem nod_get {l : List Nod} {i : Nat} {q : Nod} (h : l[i]? = some q) : (l.map nodC)[i]? = some (nodC q) := by rw [List.getElem?_map, h]; rfl

mutual
inductive Tr where
  | mk (n : Nod) (ks : Trs)
inductive Trs where
  | nil
  | cons (t : Tr) (ts : Trs)
end

def Trs.len : Trs → Nat
  | .nil => 0
  | .cons _ ts => ts.len + 1

mutual
def Tr.flat : Tr → List Nod
  | .mk n ks => n :: ks.flat
def Trs.flat : Trs → List Nod
  | .nil => []
  | .cons t ts => t.flat ++ ts.flat
end

/-- a node with so many kids -/
def nodOk (n : Nod) (nk : Nat) : Prop :=
  n.kids = (nk : Int) ∧ (((n.op = 1 ∨ n.op = 7 ∨ n.op = 8) ∧ nk = 0) ∨ (n.op = 2 ∧ nk = 0) ∨ ((n.op = 3 ∨ n.op = 4) ∧ 2 ≤ nk) ∨
    (n.op = 5 ∧ nk = 1 ∧ 0 ≤ n.mn ∧ n.mn ≤ 30 ∧ (n.mx = -1 ∨ (n.mn ≤ n.mx ∧ n.mx ≤ 30))) ∨ (n.op = 6 ∧ nk = 1 ∧ 1 ≤ n.cap ∧ n.cap ≤ 4))
mutual
def Tr.ok : Tr → Prop
  | .mk n ks => nodOk n ks.len ∧ ks.ok
def Trs.ok : Trs → Prop
  | .nil => True
  | .cons t ts => t.ok ∧ ts.ok
end

/-- how many instructions a node has, by what its kids have -/
def nodSz (n : Nod) (s k : Nat) : Nat :=
  if n.op = 2 ∨ n.op = 7 ∨ n.op = 8 then 1
  else if n.op = 4 then s + 2 * (k - 1)
  else if n.op = 6 then s + 2
  else if n.op = 5 then (if n.mx = -1 then n.mn.toNat * s + s + 2 else n.mn.toNat * s + (n.mx.toNat - n.mn.toNat) * (s + 1))
  else s
mutual
def Tr.sz : Tr → Nat
  | .mk n ks => nodSz n ks.sz ks.len
def Trs.sz : Trs → Nat
  | .nil => 0
  | .cons t ts => t.sz + ts.sz
end

/-- an instruction as it is told -/
def mkI (op x y : Int) (rs : List Rg) : PIns := ⟨op, x, y, .sl ((rs.map rangeC).map (elD 2)), rs⟩
def spI (s o : Nat) (lz : Bool) : PIns := if lz = true then mkI 2 (o : Nat) ((s + 1 : Nat) : Int) [] else mkI 2 ((s + 1 : Nat) : Int) (o : Nat) []
def jpI (e : Nat) : PIns := mkI 3 (e : Nat) 0 []

def repC (c : Nat → List PIns) (z : Nat) : Nat → Nat → List PIns
  | 0, _ => []
  | k + 1, b => c b ++ repC c z k (b + z)
def optC (sp : Nat → PIns) (c : Nat → List PIns) (z : Nat) : Nat → Nat → List PIns
  | 0, _ => []
  | k + 1, b => sp b :: (c (b + 1) ++ optC sp c z k (b + 1 + z))
def optJ (z : Nat) : Nat → Nat → List Nat
  | 0, _ => []
  | k + 1, b => b :: optJ z k (b + 1 + z)
/-- the code of a repeat, by its kid's -/
def rptC (n : Nod) (c : Nat → List PIns) (z b : Nat) : List PIns :=
  if n.mx = -1 then repC c z n.mn.toNat b ++ (spI (b + n.mn.toNat * z) (b + n.mn.toNat * z + z + 2) n.lz :: (c (b + n.mn.toNat * z + 1) ++ [jpI (b + n.mn.toNat * z)]))
  else repC c z n.mn.toNat b ++ optC (fun s => spI s (b + n.mn.toNat * z + (n.mx.toNat - n.mn.toNat) * (z + 1)) n.lz) c z (n.mx.toNat - n.mn.toNat) (b + n.mn.toNat * z)

mutual
def codeT : Tr → Nat → List PIns
  | .mk n ks, b =>
    if n.op = 2 then [mkI 1 0 0 n.rs]
    else if n.op = 7 then [mkI 5 0 0 []]
    else if n.op = 8 then [mkI 6 0 0 []]
    else if n.op = 3 then catT ks b
    else if n.op = 4 then altT (jpI (b + nodSz n ks.sz ks.len)) ks b
    else if n.op = 5 then rptC n (catT ks) ks.sz b
    else if n.op = 6 then mkI 4 (2 * n.cap) 0 [] :: (catT ks (b + 1) ++ [mkI 4 (2 * n.cap + 1) 0 []])
    else []
def catT : Trs → Nat → List PIns
  | .nil, _ => []
  | .cons t ts, b => codeT t b ++ catT ts (b + t.sz)
def altT (jp : PIns) : Trs → Nat → List PIns
  | .nil, _ => []
  | .cons t ts, b => if ts.len = 0 then codeT t b else spI b (b + 1 + t.sz + 1) false :: (codeT t (b + 1) ++ jp :: altT jp ts (b + t.sz + 2))
end
def altJ : Trs → Nat → List Nat
  | .nil, _ => []
  | .cons t ts, b => if ts.len = 0 then [] else (b + 1 + t.sz) :: altJ ts (b + t.sz + 2)

theorem repC_len {c : Nat → List PIns} {z : Nat} (hc : ∀ b, (c b).length = z) : ∀ k b, (repC c z k b).length = k * z
  | 0, b => by simp [repC]
  | k + 1, b => by rw [repC, List.length_append, hc, repC_len hc k, Nat.add_mul]; omega
theorem optC_len {sp : Nat → PIns} {c : Nat → List PIns} {z : Nat} (hc : ∀ b, (c b).length = z) : ∀ k b, (optC sp c z k b).length = k * (z + 1)
  | 0, b => by simp [optC]
  | k + 1, b => by rw [optC, List.length_cons, List.length_append, hc, optC_len hc k, Nat.add_mul]; omega
theorem rptC_len {n : Nod} {c : Nat → List PIns} {z b : Nat} (hc : ∀ b, (c b).length = z) (h : n.op = 5) : (rptC n c z b).length = nodSz n z 1 := by
  unfold rptC nodSz
  rw [if_neg (show ¬ (n.op = 2 ∨ n.op = 7 ∨ n.op = 8) by omega), if_neg (show ¬ n.op = 4 by omega), if_neg (show ¬ n.op = 6 by omega), if_pos h]
  split
  · rw [List.length_append, repC_len hc, List.length_cons, List.length_append, hc]; simp only [List.length_cons, List.length_nil]; omega
  · rw [List.length_append, repC_len hc, optC_len hc]

theorem Trs.len_one {ks : Trs} (h : ks.len = 1) : ∃ t, ks = .cons t .nil := by
  cases ks with
  | nil => simp [Trs.len] at h
  | cons t ts => cases ts with
    | nil => exact ⟨t, rfl⟩
    | cons u us => simp [Trs.len] at h
theorem Trs.len_nil {ks : Trs} (h : ks.len = 0) : ks = .nil := by
  cases ks with
  | nil => rfl
  | cons t ts => simp [Trs.len] at h

mutual
theorem codeT_len : ∀ (t : Tr) (b : Nat), t.ok → (codeT t b).length = t.sz
  | .mk n ks, b, h => by
    simp only [Tr.ok] at h
    obtain ⟨h1, h2⟩ := h
    have hc := fun b => catT_len ks b h2
    have ha := fun jp b => altT_len jp ks b h2
    simp only [codeT, Tr.sz]
    obtain ⟨_, ⟨h3, h4⟩ | ⟨h3, h4⟩ | ⟨h3, h4⟩ | ⟨h3, h4, h5⟩ | ⟨h3, h4, h5⟩⟩ := h1
    · have hk := Trs.len_nil h4
      subst hk
      by_cases q7 : n.op = 7
      · simp [q7, nodSz]
      · by_cases q8 : n.op = 8
        · simp [q8, nodSz]
        · have q1 : n.op = 1 := by omega
          simp [q1, nodSz, Trs.sz]
    · simp [h3, nodSz]
    · rcases h3 with h3 | h3
      · simp [h3, nodSz, hc]
      · simp [h3, nodSz, ha]
    · have := rptC_len (n := n) (b := b) hc h3
      simp only [h3] at this ⊢
      simp only [show ¬ ((5 : Int) = 2) by decide, show ¬ ((5 : Int) = 7) by decide, show ¬ ((5 : Int) = 8) by decide, show ¬ ((5 : Int) = 3) by decide, show ¬ ((5 : Int) = 4) by decide, if_false, if_true]
      rw [this, h4]
    · simp [h3, nodSz, hc]
theorem catT_len : ∀ (ts : Trs) (b : Nat), ts.ok → (catT ts b).length = ts.sz
  | .nil, b, _ => by simp [catT, Trs.sz]
  | .cons t ts, b, h => by
    simp only [Trs.ok] at h
    simp only [catT, Trs.sz, List.length_append]
    rw [codeT_len t b h.1, catT_len ts _ h.2]
theorem altT_len (jp : PIns) : ∀ (ts : Trs) (b : Nat), ts.ok → (altT jp ts b).length = ts.sz + 2 * (ts.len - 1)
  | .nil, b, _ => by simp [altT, Trs.sz, Trs.len]
  | .cons t ts, b, h => by
    simp only [Trs.ok] at h
    have h1 := altT_len jp ts (b + t.sz + 2) h.2
    simp only [altT, Trs.sz, Trs.len]
    by_cases q : ts.len = 0
    · rw [if_pos q, codeT_len t b h.1, q]
      have := Trs.len_nil q
      subst this
      simp [Trs.sz]
    · rw [if_neg q, List.length_cons, List.length_append, List.length_cons, codeT_len t _ h.1, h1]
      omega
end

/-- numbers are put in afterwards -/
def setAll (f : Nat → PIns) (c : List PIns) (l : List Nat) : List PIns := l.foldl (fun c j => c.set j (f j)) c

theorem set_mid {α : Type} (pre post : List α) (x y : α) : (pre ++ x :: post).set pre.length y = pre ++ y :: post := by
  rw [List.set_append_right _ _ (Nat.le_refl _), Nat.sub_self]; rfl
theorem get_mid {α : Type} (pre post : List α) (x : α) : (pre ++ x :: post)[pre.length]? = some x := by
  rw [List.getElem?_append_right (Nat.le_refl _), Nat.sub_self]; rfl

theorem opt_patch {sp : Nat → PIns} {c : Nat → List PIns} {z : Nat} (hc : ∀ b, (c b).length = z) {i0 : PIns} : ∀ (k b : Nat) (pre post : List PIns), pre.length = b → setAll sp (pre ++ optC (fun _ => i0) c z k b ++ post) (optJ z k b) = pre ++ optC sp c z k b ++ post ∧ ∀ j ∈ optJ z k b, (pre ++ optC (fun _ => i0) c z k b ++ post)[j]? = some i0
  | 0, b, pre, post, _ => ⟨rfl, fun j hj => by cases hj⟩
  | k + 1, b, pre, post, h => by
    have ih := opt_patch (sp := sp) hc (i0 := i0) k (b + 1 + z) (pre ++ i0 :: c (b + 1)) post (by rw [List.length_append, List.length_cons, hc]; omega)
    have ih2 := opt_patch (sp := sp) hc (i0 := i0) k (b + 1 + z) (pre ++ sp b :: c (b + 1)) post (by rw [List.length_append, List.length_cons, hc]; omega)
    simp only [optC, optJ]
    have e : pre ++ i0 :: (c (b + 1) ++ optC (fun _ => i0) c z k (b + 1 + z)) ++ post = pre ++ i0 :: (c (b + 1) ++ optC (fun _ => i0) c z k (b + 1 + z) ++ post) := by simp
    have e2 : pre ++ i0 :: c (b + 1) ++ optC (fun _ => i0) c z k (b + 1 + z) ++ post = pre ++ i0 :: (c (b + 1) ++ optC (fun _ => i0) c z k (b + 1 + z) ++ post) := by simp
    refine ⟨?_, fun j hj => ?_⟩
    · unfold setAll at ih2 ⊢
      rw [List.foldl_cons, e]
      have hs : (pre ++ i0 :: (c (b + 1) ++ optC (fun _ => i0) c z k (b + 1 + z) ++ post)).set b (sp b) = pre ++ sp b :: c (b + 1) ++ optC (fun _ => i0) c z k (b + 1 + z) ++ post := by
        rw [← h, set_mid]; simp
      rw [hs, ih2.1]; simp
    · rw [e]
      rcases List.mem_cons.1 hj with rfl | hj
      · rw [← h]; exact get_mid _ _ _
      · rw [← e2]; exact ih.2 j hj

theorem alt_patch {jp i0 : PIns} : ∀ (ts : Trs) (b : Nat) (pre post : List PIns), ts.ok → pre.length = b → setAll (fun _ => jp) (pre ++ altT i0 ts b ++ post) (altJ ts b) = pre ++ altT jp ts b ++ post ∧ ∀ j ∈ altJ ts b, (pre ++ altT i0 ts b ++ post)[j]? = some i0
  | .nil, b, pre, post, _, _ => ⟨by simp [altT, altJ, setAll], fun j hj => by simp [altJ] at hj⟩
  | .cons t ts, b, pre, post, hok, h => by
    simp only [Trs.ok] at hok
    by_cases q : ts.len = 0
    · simp only [altT, altJ, if_pos q]
      exact ⟨rfl, fun j hj => by cases hj⟩
    · simp only [altT, altJ, if_neg q]
      generalize spI b (b + 1 + t.sz + 1) false = sp
      have hcl := codeT_len t (b + 1) hok.1
      have ih := alt_patch (jp := jp) (i0 := i0) ts (b + t.sz + 2) (pre ++ sp :: (codeT t (b + 1) ++ [i0])) post hok.2 (by simp only [List.length_append, List.length_cons, List.length_nil, hcl]; omega)
      have ih2 := alt_patch (jp := jp) (i0 := i0) ts (b + t.sz + 2) (pre ++ sp :: (codeT t (b + 1) ++ [jp])) post hok.2 (by simp only [List.length_append, List.length_cons, List.length_nil, hcl]; omega)
      generalize altT i0 ts (b + t.sz + 2) = A at *
      have e : pre ++ sp :: (codeT t (b + 1) ++ i0 :: A) ++ post = (pre ++ sp :: codeT t (b + 1)) ++ i0 :: (A ++ post) := by simp
      have hl : (pre ++ sp :: codeT t (b + 1)).length = b + 1 + t.sz := by simp only [List.length_append, List.length_cons, hcl]; omega
      refine ⟨?_, fun j hj => ?_⟩
      · unfold setAll at ih2 ⊢
        rw [List.foldl_cons, e, ← hl, set_mid]
        have := ih2.1
        simp only [List.append_assoc, List.cons_append, List.nil_append] at this ⊢
        exact this
      · rw [e]
        rcases List.mem_cons.1 hj with rfl | hj
        · rw [← hl]; exact get_mid _ _ _
        · have := ih.2 j hj
          simp only [List.append_assoc, List.cons_append, List.nil_append] at this ⊢
          exact this

/-- what stands in a list from a place on -/
def Seg {α : Type} (L : List α) (at_ : Nat) (M : List α) : Prop := ∃ post, L.drop at_ = M ++ post
theorem Seg.head {α : Type} {L M : List α} {a : α} {at_ : Nat} (h : Seg L at_ (a :: M)) : L[at_]? = some a := by
  obtain ⟨post, h⟩ := h
  have := congrArg (·[0]?) h
  simpa using this
theorem Seg.tail {α : Type} {L M : List α} {a : α} {at_ : Nat} (h : Seg L at_ (a :: M)) : Seg L (at_ + 1) M := by
  obtain ⟨post, h⟩ := h
  refine ⟨post, ?_⟩
  rw [← List.drop_drop, h]; rfl
theorem Seg.left {α : Type} {L M M' : List α} {at_ : Nat} (h : Seg L at_ (M ++ M')) : Seg L at_ M := by
  obtain ⟨post, h⟩ := h
  exact ⟨M' ++ post, by rw [h, List.append_assoc]⟩
theorem Seg.right {α : Type} {L M M' : List α} {at_ : Nat} (h : Seg L at_ (M ++ M')) : Seg L (at_ + M.length) M' := by
  obtain ⟨post, h⟩ := h
  refine ⟨post, ?_⟩
  rw [← List.drop_drop, h, List.append_assoc, List.drop_left]
theorem Seg.le {α : Type} {L M : List α} {at_ : Nat} (h : Seg L at_ M) (hM : M ≠ []) : at_ + M.length ≤ L.length := by
  obtain ⟨post, h⟩ := h
  have := congrArg List.length h
  simp only [List.length_drop, List.length_append] at this
  have : 0 < M.length := by cases M with | nil => exact absurd rfl hM | cons _ _ => simp
  omega
theorem Seg.all {α : Type} (L : List α) : Seg L 0 L := ⟨[], by simp⟩

mutual
/-- of each node how many instructions it has -/
def Tr.zs : Tr → List Int
  | .mk n ks => ((min (nodSz n ks.sz ks.len) 401 : Nat) : Int) :: ks.zs
def Trs.zs : Trs → List Int
  | .nil => []
  | .cons t ts => t.zs ++ ts.zs
end
mutual
/-- of each node what stands behind it and its kids -/
def Tr.es : Tr → Nat → List Int
  | .mk n ks, at_ => ((at_ + 1 + ks.flat.length : Nat) : Int) :: ks.es (at_ + 1)
def Trs.es : Trs → Nat → List Int
  | .nil, _ => []
  | .cons t ts, at_ => t.es at_ ++ ts.es (at_ + t.flat.length)
end
mutual
theorem Tr.zs_len : ∀ t : Tr, t.zs.length = t.flat.length
  | .mk n ks => by simp [Tr.zs, Tr.flat, Trs.zs_len ks]
theorem Trs.zs_len : ∀ ts : Trs, ts.zs.length = ts.flat.length
  | .nil => rfl
  | .cons t ts => by simp [Trs.zs, Trs.flat, Tr.zs_len t, Trs.zs_len ts]
end
mutual
theorem Tr.es_len : ∀ (t : Tr) (a : Nat), (t.es a).length = t.flat.length
  | .mk n ks, a => by simp [Tr.es, Tr.flat, Trs.es_len ks]
theorem Trs.es_len : ∀ (ts : Trs) (a : Nat), (ts.es a).length = ts.flat.length
  | .nil, _ => rfl
  | .cons t ts, a => by simp [Trs.es, Trs.flat, Tr.es_len t, Trs.es_len ts]
end
theorem Tr.flat_pos (t : Tr) : 0 < t.flat.length := by cases t; simp [Tr.flat]
theorem Trs.len_le : ∀ ts : Trs, ts.len ≤ ts.flat.length
  | .nil => Nat.le_refl _
  | .cons t ts => by
    have h1 := Trs.len_le ts
    have h2 := t.flat_pos
    simp only [Trs.len, Trs.flat, List.length_append]; omega
end Go.Proofs.Ytbdilgkfnacahaa
