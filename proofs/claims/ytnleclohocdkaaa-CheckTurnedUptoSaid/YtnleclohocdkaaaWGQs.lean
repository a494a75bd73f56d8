/- own -/
import Derived.Test.YtnleclohocdkaaaWGQa
import Derived.Test.YtnleclohocdkaaaWGPj
import Derived.Test.YtnleclohocdkaaaWGQh
import Derived.Test.YtnleclohocdkaaaWGHr
import Derived.Test.YtnleclohocdkaaaWGCa
set_option linter.unusedSimpArgs false
set_option linter.unusedVariables false
set_option maxRecDepth 100000
set_option maxHeartbeats 4000000
namespace Go.Proofs.Ytnleclohocdkaaa
open Go.V Go
structure Lab (X : Nat -> Prop) (c : List PIns) (b : Nat) (A : Nat -> Prop) (g : Nat -> Nat -> Prop) : Prop where
  hd : g b = A
  tl : g (b + c.length) = A
  xs : ∀ n,X n -> b <= n -> n <= b + c.length -> g n = A
  st : ∀ j i,c[j]? = some i -> (∀ v ∈ nextS (b + j) i, ∃ n : Nat,v = (n : Int) /\ ((b <= n /\ n <= b + c.length /\ ∀ s,g n s -> g (b + j) s \/ (i.op = 4 /\ i.x = (s : Int))) \/ (X n /\ ∀ s,A s -> g (b + j) s \/ (i.op = 4 /\ i.x = (s : Int))))) /\
    i.op ≠ 7 /\ (i.op = 4 -> ∃ k : Nat,1 <= k /\ (i.x = ((2 * k : Nat) : Int) \/ (i.x = ((2 * k + 1 : Nat) : Int) /\ g (b + j) (2 * k))))
theorem Lab.nil (X : Nat -> Prop) (b : Nat) (A : Nat -> Prop) : Lab X [] b A fun _ => A := ⟨rfl,rfl,fun _ _ _ _ => rfl,fun j i h => by simp at h⟩
theorem Lab.one {X : Nat -> Prop} {b : Nat} {A : Nat -> Prop} {i : PIns} (h4 : i.op ≠ 4) (h7 : i.op ≠ 7) (h : ∀ v ∈ nextS b i, ∃ n : Nat,v = (n : Int) /\ (n = b + 1 \/ X n)) : Lab X [i] b A fun _ => A := by
  refine ⟨rfl,rfl,fun _ _ _ _ => rfl,fun j i' hj => ?_⟩
  cases j with
  | succ j => simp at hj
  | zero =>
    simp only [List.getElem?_cons_zero,Option.some.injEq] at hj
    subst hj
    refine ⟨fun v hv => ?_,h7,fun h => absurd h h4⟩
    obtain ⟨n,h1,h2⟩ := h v hv
    refine ⟨n,h1,?_⟩
    rcases h2 with rfl | h2
    · exact .inl ⟨by omega,by simp,fun s hs => .inl hs⟩
    · exact .inr ⟨h2,fun s hs => .inl hs⟩
theorem Lab.widen {X Y : Nat -> Prop} {c : List PIns} {b : Nat} {A : Nat -> Prop} {g : Nat -> Nat -> Prop} (h : Lab X c b A g) (h1 : ∀ n,X n -> Y n) (h2 : ∀ n,Y n -> X n \/ n <= b \/ b + c.length <= n) : Lab Y c b A g := by
  refine ⟨h.hd,h.tl,fun n hn h3 h4 => ?_,fun j i hj => ⟨fun v hv => ?_,(h.st j i hj).2⟩⟩
  · rcases h2 n hn with h5 | h5 | h5
    · exact h.xs n h5 h3 h4
    · rw [show n = b by omega]; exact h.hd
    · rw [show n = b + c.length by omega]; exact h.tl
  · obtain ⟨n,e,h5⟩ := (h.st j i hj).1 v hv
    refine ⟨n,e,?_⟩
    rcases h5 with h5 | ⟨h5,h6⟩
    · exact .inl h5
    · exact .inr ⟨h1 n h5,h6⟩
theorem Lab.close {X Y : Nat -> Prop} {c : List PIns} {b : Nat} {A : Nat -> Prop} {g : Nat -> Nat -> Prop} (h : Lab X c b A g) (h1 : ∀ n,Y n -> X n) (h2 : ∀ n,X n -> Y n \/ (b <= n /\ n <= b + c.length)) : Lab Y c b A g := by
  refine ⟨h.hd,h.tl,fun n hn => h.xs n (h1 n hn),fun j i hj => ⟨fun v hv => ?_,(h.st j i hj).2⟩⟩
  obtain ⟨n,e,h5⟩ := (h.st j i hj).1 v hv
  refine ⟨n,e,?_⟩
  rcases h5 with h5 | ⟨h5,h6⟩
  · exact .inl h5
  · rcases h2 n h5 with h7 | ⟨h7,h8⟩
    · exact .inr ⟨h7,h6⟩
    · exact .inl ⟨h7,h8,fun s hs => h6 s (by rw [h.xs n h5 h7 h8] at hs; exact hs)⟩
theorem Lab.append {X : Nat -> Prop} {c d : List PIns} {b e : Nat} {A : Nat -> Prop} {g f : Nat -> Nat -> Prop} (h : Lab X c b A g) (he : e = b + c.length) (k : Lab X d e A f) : Lab X (c ++ d) b A fun n => if n < e then g n else f n := by
  subst he
  have hm : ∀ n,b + c.length = n -> g n = f n := fun n hn => by subst hn; rw [h.tl,k.hd]
  refine ⟨?_,?_,fun n hn h1 h2 => ?_,fun j i hj => ?_⟩
  · show (if b < b + c.length then g b else f b) = A
    split
    · exact h.hd
    · rw [show b = b + c.length by omega]; exact k.hd
  · show (if b + (c ++ d).length < b + c.length then g _ else f _) = A
    rw [if_neg (by rw [List.length_append]; omega),List.length_append, <- Nat.add_assoc]; exact k.tl
  · show (if n < b + c.length then g n else f n) = A
    rw [List.length_append] at h2
    split
    · exact h.xs n hn h1 (by omega)
    · exact k.xs n hn (by omega) (by omega)
  · by_cases hjl : j < c.length
    · rw [List.getElem?_append_left hjl] at hj
      obtain ⟨h1,h2⟩ := h.st j i hj
      have hg : (if b + j < b + c.length then g (b + j) else f (b + j)) = g (b + j) := if_pos (by omega)
      simp only [hg]
      refine ⟨fun v hv => ?_,h2⟩
      obtain ⟨n,e1,h3⟩ := h1 v hv
      refine ⟨n,e1,?_⟩
      rcases h3 with ⟨h3,h4,h5⟩ | h3
      · refine .inl ⟨h3,by rw [List.length_append]; omega,fun s hs => h5 s ?_⟩
        split at hs
        · exact hs
        · rw [hm n (by omega)]; exact hs
      · exact .inr h3
    · rw [List.getElem?_append_right (by omega)] at hj
      obtain ⟨h1,h2⟩ := k.st (j - c.length) i hj
      have hjj : b + c.length + (j - c.length) = b + j := by omega
      rw [hjj] at h1 h2
      have hg : (if b + j < b + c.length then g (b + j) else f (b + j)) = f (b + j) := if_neg (by omega)
      simp only [hg]
      refine ⟨fun v hv => ?_,h2⟩
      obtain ⟨n,e1,h3⟩ := h1 v hv
      refine ⟨n,e1,?_⟩
      rcases h3 with ⟨h3,h4,h5⟩ | h3
      · refine .inl ⟨by omega,by rw [List.length_append]; omega,fun s hs => h5 s ?_⟩
        rw [if_neg (by omega)] at hs
        exact hs
      · exact .inr h3
theorem Lab.group {c : List PIns} {b : Nat} {A : Nat -> Prop} {g : Nat -> Nat -> Prop} {k : Nat} {q w : PIns} (hk : 1 <= k) (hq : q.op = 4 /\ q.x = ((2 * k : Nat) : Int)) (hw : w.op = 4 /\ w.x = ((2 * k + 1 : Nat) : Int)) (h : Lab (fun _ => False) c (b + 1) (fun s => A s \/ s = 2 * k) g) :
    Lab (fun _ => False) (q :: (c ++ [w])) b A fun n => if n <= b \/ b + 1 + c.length < n then A else g n := by
  have hnx : ∀ (i : PIns) (m : Nat),i.op = 4 -> nextS m i = [((m + 1 : Nat) : Int)] := fun i m hi => by unfold nextS; rw [if_neg (by omega),if_neg (by omega),if_neg (by omega)]
  refine ⟨if_pos (.inl (by omega)),if_pos (.inr (by simp; omega)),fun n hn => hn.elim,fun j i hj => ?_⟩
  cases j with
  | zero =>
    simp only [List.getElem?_cons_zero,Option.some.injEq] at hj
    subst hj
    refine ⟨fun v hv => ?_,by rw [hq.1]; decide,fun _ => ⟨k,hk, .inl hq.2⟩⟩
    rw [hnx q _ hq.1] at hv
    simp only [List.mem_cons,List.not_mem_nil,or_false] at hv
    subst hv
    refine ⟨b + 0 + 1,rfl, .inl ⟨by omega,by simp,fun s hs => ?_⟩⟩
    rw [if_neg (by omega)] at hs
    rw [show b + 0 + 1 = b + 1 by omega,h.hd] at hs
    rcases hs with hs | rfl
    · exact .inl (by rw [if_pos (.inl (by omega))]; exact hs)
    · exact .inr ⟨hq.1,hq.2⟩
  | succ j =>
    rw [List.getElem?_cons_succ] at hj
    by_cases hjl : j < c.length
    · rw [List.getElem?_append_left hjl] at hj
      obtain ⟨h1,h2⟩ := h.st j i hj
      have hjj : b + 1 + j = b + (j + 1) := by omega
      rw [hjj] at h1 h2
      have hg : (if b + (j + 1) <= b \/ b + 1 + c.length < b + (j + 1) then A else g (b + (j + 1))) = g (b + (j + 1)) := if_neg (by omega)
      simp only [hg]
      refine ⟨fun v hv => ?_,h2⟩
      obtain ⟨n,e1,h3⟩ := h1 v hv
      refine ⟨n,e1,?_⟩
      rcases h3 with ⟨h3,h4,h5⟩ | ⟨h3,_⟩
      · refine .inl ⟨by omega,by simp; omega,fun s hs => h5 s ?_⟩
        rw [if_neg (by omega)] at hs
        exact hs
      · exact h3.elim
    · rw [List.getElem?_append_right (by omega)] at hj
      have hjc : j = c.length := by
        rcases Nat.eq_or_lt_of_le (show c.length <= j by omega) with h' | h'
        · exact h'.symm
        · rw [List.getElem?_eq_none (by simp; omega)] at hj; cases hj
      subst hjc
      simp only [Nat.sub_self,List.getElem?_cons_zero,Option.some.injEq] at hj
      subst hj
      have hg : (if b + (c.length + 1) <= b \/ b + 1 + c.length < b + (c.length + 1) then A else g (b + (c.length + 1))) = g (b + (c.length + 1)) := if_neg (by omega)
      have ht : g (b + (c.length + 1)) = fun s => A s \/ s = 2 * k := by rw [<- h.tl]; congr 1; omega
      refine ⟨fun v hv => ?_,by rw [hw.1]; decide,fun _ => ⟨k,hk, .inr ⟨hw.2,by rw [hg,ht]; exact .inr rfl⟩⟩⟩
      rw [hnx w _ hw.1] at hv
      simp only [List.mem_cons,List.not_mem_nil,or_false] at hv
      subst hv
      refine ⟨b + (c.length + 1) + 1,rfl, .inl ⟨by omega,by simp; omega,fun s hs => ?_⟩⟩
      rw [if_pos (.inr (by omega))] at hs
      rw [hg,ht]
      exact .inl (.inl hs)
theorem Lab.jp {b e : Nat} {X : Nat -> Prop} (A : Nat -> Prop) (he : X e) : Lab X [jpI e] b A fun _ => A := by
  refine Lab.one (by simp [jpI,mkI]) (by simp [jpI,mkI]) fun v hv => ?_
  simp only [nextS,jpI,mkI,if_true,List.mem_cons,List.not_mem_nil,or_false] at hv
  rw [if_neg (by decide)] at hv
  simp only [List.mem_cons,List.not_mem_nil,or_false] at hv
  exact ⟨e,hv, .inr he⟩
theorem Lab.sp {b o : Nat} {lz : Bool} {X : Nat -> Prop} (A : Nat -> Prop) (he : X o) : Lab X [spI b o lz] b A fun _ => A := by
  have h2 : (spI b o lz).op = 2 := by unfold spI; split <;> rfl
  refine Lab.one (by omega) (by omega) fun v hv => ?_
  unfold nextS at hv
  rw [if_pos h2] at hv
  unfold spI at hv
  split at hv
  · simp only [mkI,List.mem_cons,List.not_mem_nil,or_false] at hv
    rcases hv with rfl | rfl
    · exact ⟨o,rfl, .inr he⟩
    · exact ⟨b + 1,rfl, .inl rfl⟩
  · simp only [mkI,List.mem_cons,List.not_mem_nil,or_false] at hv
    rcases hv with rfl | rfl
    · exact ⟨b + 1,rfl, .inl rfl⟩
    · exact ⟨o,rfl, .inr he⟩
def Labd (X : Nat -> Prop) (c : List PIns) (b : Nat) (A : Nat -> Prop) : Prop := ∃ g,Lab X c b A g
theorem Labd.append {X : Nat -> Prop} {c d : List PIns} {b e : Nat} {A : Nat -> Prop} (h : Labd X c b A) (he : e = b + c.length) (k : Labd X d e A) : Labd X (c ++ d) b A := by
  obtain ⟨g,h⟩ := h; obtain ⟨f,k⟩ := k; exact ⟨_,h.append he k⟩
theorem repC_lab {A : Nat -> Prop} {c : Nat -> List PIns} {z : Nat} (hl : ∀ b,(c b).length = z) (hc : ∀ b,Labd (fun _ => False) (c b) b A) : ∀ k b,Labd (fun _ => False) (repC c z k b) b A
  | 0,b => ⟨_, .nil _ b A⟩
  | k + 1,b => (hc b).append (by rw [hl]) (repC_lab hl hc k (b + z))
theorem optC_lab {A : Nat -> Prop} {c : Nat -> List PIns} {z e : Nat} {lz : Bool} (hl : ∀ b,(c b).length = z) (hc : ∀ b,Labd (fun _ => False) (c b) b A) : ∀ k b,b + k * (z + 1) <= e -> Labd (fun n => n = e) (optC (fun s => spI s e lz) c z k b) b A
  | 0,b,_ => ⟨_, .nil _ b A⟩
  | k + 1,b,he => by
    rw [Nat.add_mul] at he
    obtain ⟨g,hg⟩ := hc (b + 1)
    have h1 : Labd (fun n => n = e) (c (b + 1)) (b + 1) A := ⟨g,hg.widen (fun n h => h.elim) fun n h => .inr (.inr (by rw [hl]; omega))⟩
    have h2 := h1.append (e := b + 1 + z) (by rw [hl]) (optC_lab (lz := lz) hl hc k (b + 1 + z) (by omega))
    exact Labd.append (c := [_]) ⟨_,Lab.sp A rfl⟩ (e := b + 1) rfl h2
theorem Labd.widen {X Y : Nat -> Prop} {c : List PIns} {b : Nat} {A : Nat -> Prop} (h : Labd X c b A) (h1 : ∀ n,X n -> Y n) (h2 : ∀ n,Y n -> X n \/ n <= b \/ b + c.length <= n) : Labd Y c b A := by
  obtain ⟨g,h⟩ := h; exact ⟨g,h.widen h1 h2⟩
theorem Labd.close {X Y : Nat -> Prop} {c : List PIns} {b : Nat} {A : Nat -> Prop} (h : Labd X c b A) (h1 : ∀ n,Y n -> X n) (h2 : ∀ n,X n -> Y n \/ (b <= n /\ n <= b + c.length)) : Labd Y c b A := by
  obtain ⟨g,h⟩ := h; exact ⟨g,h.close h1 h2⟩
theorem rptC_lab {A : Nat -> Prop} {n : Nod} {c : Nat -> List PIns} {z : Nat} (hl : ∀ b,(c b).length = z) (hc : ∀ b,Labd (fun _ => False) (c b) b A) (b : Nat) : Labd (fun _ => False) (rptC n c z b) b A := by
  have hr := repC_lab hl hc n.mn.toNat b
  have hrl : (repC c z n.mn.toNat b).length = n.mn.toNat * z := repC_len hl _ _
  unfold rptC
  split
  · refine hr.append (e := b + n.mn.toNat * z) (by rw [hrl]) ?_
    generalize b + n.mn.toNat * z = s
    have h1 : Labd (fun n => n = s \/ n = s + z + 2) (c (s + 1)) (s + 1) A := (hc (s + 1)).widen (fun n h => h.elim) fun n h => by rw [hl]; omega
    have h2 : Labd (fun n => n = s \/ n = s + z + 2) [jpI s] (s + 1 + z) A := ⟨_,Lab.jp A (.inl rfl)⟩
    have h3 := Labd.append (c := [spI s (s + z + 2) n.lz]) (b := s) ⟨_,Lab.sp A (.inr rfl)⟩ (e := s + 1) rfl (h1.append (by rw [hl]) h2)
    refine Labd.close h3 (fun n h => h.elim) fun n h => .inr ?_
    simp only [List.length_append,List.length_cons,List.length_nil,hl]
    omega
  · refine hr.append (e := b + n.mn.toNat * z) (by rw [hrl]) ?_
    generalize b + n.mn.toNat * z = s
    have h1 := optC_lab (lz := n.lz) (e := s + (n.mx.toNat - n.mn.toNat) * (z + 1)) hl hc (n.mx.toNat - n.mn.toNat) s (Nat.le_refl _)
    refine Labd.close h1 (fun n h => h.elim) fun n h => .inr ?_
    rw [optC_len hl]
    omega
mutual
theorem codeT_lab : ∀ (t : Tr) (b : Nat) (A : Nat -> Prop),t.ok -> Labd (fun _ => False) (codeT t b) b A
  | .mk n ks,b,A,h => by
    have hlen := codeT_len (.mk n ks) b h
    simp only [Tr.ok] at h
    obtain ⟨h1,h2⟩ := h
    have hcl := fun b => catT_len ks b h2
    have hnx : ∀ (op x y : Int) (rs : List Rg) (m : Nat),op ≠ 2 -> op ≠ 3 -> op ≠ 7 -> ∀ v ∈ nextS m (mkI op x y rs), ∃ n : Nat,v = (n : Int) /\ (n = m + 1 \/ False) := by
      intro op x y rs m a1 a2 a3 v hv
      unfold nextS at hv
      rw [if_neg (show ¬ (mkI op x y rs).op = 2 from a1),if_neg (show ¬ (mkI op x y rs).op = 3 from a2),if_neg (show ¬ (mkI op x y rs).op = 7 from a3)] at hv
      simp only [List.mem_cons,List.not_mem_nil,or_false] at hv
      exact ⟨m + 1,hv, .inl rfl⟩
    simp only [codeT]
    split
    · exact ⟨_,Lab.one (by simp [mkI]) (by simp [mkI]) (hnx 1 0 0 _ b (by decide) (by decide) (by decide))⟩
    · split
      · exact ⟨_,Lab.one (by simp [mkI]) (by simp [mkI]) (hnx 5 0 0 _ b (by decide) (by decide) (by decide))⟩
      · split
        · exact ⟨_,Lab.one (by simp [mkI]) (by simp [mkI]) (hnx 6 0 0 _ b (by decide) (by decide) (by decide))⟩
        · split
          · exact catT_lab ks b A h2
          · split
            · rename_i h4
              have hz : nodSz n ks.sz ks.len = ks.sz + 2 * (ks.len - 1) := by unfold nodSz; rw [if_neg (by omega),if_pos h4]
              have ha := altT_len (jpI (b + nodSz n ks.sz ks.len)) ks b h2
              refine Labd.close (X := fun m => m = b + nodSz n ks.sz ks.len) ?_ (fun n h => h.elim) fun m hm => .inr ?_
              · exact altT_lab _ ks b A h2 (by rw [ha,hz]; omega)
              · rw [ha]; rw [hz] at hm; omega
            · split
              · exact rptC_lab hcl (fun b => catT_lab ks b A h2) b
              · split
                · rename_i h6
                  obtain ⟨g,hg⟩ := catT_lab ks (b + 1) (fun s => A s \/ s = 2 * n.cap.toNat) h2
                  have hcap : 1 <= n.cap := by
                    rcases h1.2 with h | h | h | h | h <;> omega
                  exact ⟨_,Lab.group (k := n.cap.toNat) (by omega) ⟨rfl,by show 2 * n.cap = _; omega⟩ ⟨rfl,by show 2 * n.cap + 1 = _; omega⟩ hg⟩
                · exact ⟨_, .nil _ b A⟩
theorem catT_lab : ∀ (ts : Trs) (b : Nat) (A : Nat -> Prop),ts.ok -> Labd (fun _ => False) (catT ts b) b A
  | .nil,b,A,_ => by simp only [catT]; exact ⟨_, .nil _ b A⟩
  | .cons t ts,b,A,h => by
    simp only [Trs.ok] at h
    simp only [catT]
    exact (codeT_lab t b A h.1).append (by rw [codeT_len t b h.1]) (catT_lab ts (b + t.sz) A h.2)
theorem altT_lab (e : Nat) : ∀ (ts : Trs) (b : Nat) (A : Nat -> Prop),ts.ok -> b + (altT (jpI e) ts b).length <= e -> Labd (fun n => n = e) (altT (jpI e) ts b) b A
  | .nil,b,A,_,_ => by simp only [altT]; exact ⟨_, .nil _ b A⟩
  | .cons t ts,b,A,h,he => by
    simp only [Trs.ok] at h
    simp only [altT] at he ⊢
    split
    · rename_i h0
      rw [if_pos h0] at he
      exact (codeT_lab t b A h.1).widen (fun n h => h.elim) fun n hn => .inr (.inr (by omega))
    · rename_i h0
      rw [if_neg h0] at he
      simp only [List.length_cons,List.length_append,codeT_len t (b + 1) h.1] at he
      have h1 : Labd (fun n => n = e \/ n = b + 1 + t.sz + 1) (codeT t (b + 1)) (b + 1) A := (codeT_lab t (b + 1) A h.1).widen (fun n h => h.elim) fun n hn => .inr (.inr (by rw [codeT_len t (b + 1) h.1]; omega))
      have h2 : Labd (fun n => n = e \/ n = b + 1 + t.sz + 1) (altT (jpI e) ts (b + t.sz + 2)) (b + t.sz + 2) A := (altT_lab e ts (b + t.sz + 2) A h.2 (by omega)).widen (fun n h => .inl h) fun n hn => by omega
      have h3 : Labd (fun n => n = e \/ n = b + 1 + t.sz + 1) (jpI e :: altT (jpI e) ts (b + t.sz + 2)) (b + 1 + t.sz) A := Labd.append (c := [jpI e]) ⟨_,Lab.jp A (.inl rfl)⟩ (e := b + t.sz + 2) (by simp only [List.length_cons,List.length_nil]; omega) h2
      have h4 := Labd.append (c := [spI b (b + 1 + t.sz + 1) false]) (b := b) ⟨_,Lab.sp A (.inr rfl)⟩ (e := b + 1) rfl (h1.append (by rw [codeT_len t (b + 1) h.1]) h3)
      refine Labd.close h4 (fun n h => .inl h) fun n hn => ?_
      rcases hn with hn | hn
      · exact .inl hn
      · refine .inr ?_
        simp only [List.length_append,List.length_cons,List.length_nil,codeT_len t (b + 1) h.1]
        omega
end
def Trs.l : Trs -> List Tr
  | .nil => []
  | .cons t ts => t :: ts.l
def trsOf : List Tr -> Trs
  | [] => .nil
  | t :: l => .cons t (trsOf l)
theorem trs_l : ∀ l : List Tr,(trsOf l).l = l
  | [] => rfl
  | t :: l => by simp only [Trs.l,trsOf,trs_l l]
theorem trs_len : ∀ ks : Trs,ks.l.length = ks.len
  | .nil => rfl
  | .cons t ts => by simp only [Trs.l,Trs.len,List.length_cons,trs_len ts]
def Tr.n : Tr -> Nod
  | .mk n _ => n
def Tr.ks : Tr -> List Tr
  | .mk _ ks => ks.l
mutual
def Tr.c : Tr -> List D
  | .mk n ks => [.int .i64 n.op,n.rd, .int .i64 n.mn, .int .i64 n.mx, .bool n.lz, .int .i64 n.cap, .int .i64 n.kids, .sl ks.ds]
def Trs.ds : Trs -> List D
  | .nil => []
  | .cons t ts => .agg t.c :: ts.ds
end
mutual
def Tr.fa (P : Nod -> Prop) : Tr -> Prop
  | .mk n ks => P n /\ ks.fa P
def Trs.fa (P : Nod -> Prop) : Trs -> Prop
  | .nil => True
  | .cons t ts => t.fa P /\ ts.fa P
end
theorem trs_fa {P : Nod -> Prop} : ∀ {ks : Trs},ks.fa P ↔ ∀ t ∈ ks.l,t.fa P
  | .nil => by simp [Trs.fa,Trs.l]
  | .cons t ts => by simp only [Trs.fa,Trs.l,List.mem_cons,forall_eq_or_imp,trs_fa (ks := ts)]
theorem Tr.fa_eq {P : Nod -> Prop} {t : Tr} : t.fa P ↔ P t.n /\ ∀ k ∈ t.ks,k.fa P := by
  cases t with
  | mk n ks => simp only [Tr.fa,Tr.n,Tr.ks,trs_fa]
theorem mk_fa {P : Nod -> Prop} {n : Nod} {l : List Tr} : (Tr.mk n (trsOf l)).fa P ↔ P n /\ ∀ k ∈ l,k.fa P := by
  rw [Tr.fa_eq]; simp only [Tr.n,Tr.ks,trs_l]
mutual
theorem Tr.fa_flat {P : Nod -> Prop} : ∀ (t : Tr),t.fa P ↔ ∀ n ∈ t.flat,P n
  | .mk n ks => by simp only [Tr.fa,Tr.flat,List.mem_cons,forall_eq_or_imp,Trs.fa_flat ks]
theorem Trs.fa_flat {P : Nod -> Prop} : ∀ (ts : Trs),ts.fa P ↔ ∀ n ∈ ts.flat,P n
  | .nil => by simp [Trs.fa,Trs.flat]
  | .cons t ts => by simp only [Trs.fa,Trs.flat,List.mem_append,or_imp,forall_and,Tr.fa_flat t,Trs.fa_flat ts]
end
mutual
def Tr.cnt : Tr -> Nat
  | .mk n ks => ks.cnt + 1
def Trs.cnt : Trs -> Nat
  | .nil => 0
  | .cons t ts => t.cnt + ts.cnt
end
def cntL (l : List Tr) : Nat := (l.map Tr.cnt).sum
theorem trs_cnt : ∀ ks : Trs,ks.cnt = cntL ks.l
  | .nil => rfl
  | .cons t ts => by simp only [Trs.cnt,Trs.l,cntL,List.map_cons,List.sum_cons,trs_cnt ts]
theorem Tr.cnt_eq (t : Tr) : t.cnt = cntL t.ks + 1 := by
  cases t with
  | mk n ks => simp only [Tr.cnt,Tr.ks,trs_cnt]
theorem mk_cnt (n : Nod) (l : List Tr) : (Tr.mk n (trsOf l)).cnt = cntL l + 1 := by
  rw [Tr.cnt_eq]; simp only [Tr.ks,trs_l]
mutual
theorem Tr.cnt_flat : ∀ t : Tr,t.flat.length = t.cnt
  | .mk n ks => by simp only [Tr.flat,Tr.cnt,List.length_cons,Trs.cnt_flat ks]
theorem Trs.cnt_flat : ∀ ts : Trs,ts.flat.length = ts.cnt
  | .nil => rfl
  | .cons t ts => by simp only [Trs.flat,Trs.cnt,List.length_append,Tr.cnt_flat t,Trs.cnt_flat ts]
end
theorem cntL_app (a b : List Tr) : cntL (a ++ b) = cntL a + cntL b := by unfold cntL; rw [List.map_append,List.sum_append]
theorem cntL_cons (t : Tr) (b : List Tr) : cntL (t :: b) = t.cnt + cntL b := by unfold cntL; rw [List.map_cons,List.sum_cons]
theorem cntL_len : ∀ l : List Tr,l.length <= cntL l
  | [] => Nat.le_refl _
  | t :: l => by have := cntL_len l; have := Tr.cnt_eq t; rw [cntL_cons,List.length_cons]; omega
theorem cntL_mem {l : List Tr} {t : Tr} (h : t ∈ l) : t.cnt <= cntL l := by
  induction l with
  | nil => cases h
  | cons x l ih =>
    rw [cntL_cons]
    rcases List.mem_cons.1 h with rfl | h
    · omega
    · have := ih h; omega
mutual
def Tr.same : Tr -> Tr -> Bool
  | .mk n ks, .mk m js => n.op == m.op && n.mn == m.mn && n.mx == m.mx && n.lz == m.lz && n.cap == m.cap && n.rs == m.rs && ks.same js
def Trs.same : Trs -> Trs -> Bool
  | .nil, .nil => true
  | .cons t ts, .cons u us => t.same u && ts.same us
  | .nil, .cons _ _ => false
  | .cons _ _, .nil => false
end
mutual
def Tr.grp : Tr -> Bool
  | .mk n ks => n.op == 6 || ks.grp
def Trs.grp : Trs -> Bool
  | .nil => false
  | .cons t ts => t.grp || ts.grp
end
def nd0 (op : Int) : Nod := ⟨op,rangesV [], [],0,0,false,0,0⟩
def tr0 (op : Int) (l : List Tr) : Tr := .mk (nd0 op) (trsOf l)
def spreadT (op : Int) (l : List Tr) : List Tr := l.flatMap fun t => if t.n.op = op then t.ks else [t]
def underT (op : Int) (l : List Tr) : Tr := match l with
  | [] => tr0 1 []
  | [t] => t
  | l => tr0 op l
def onceT (l : List Tr) : List Tr := l.foldl (fun out k => if out.any (fun x => x.same k) = true then out else out ++ [k]) []
noncomputable def clsT (a b : List Rg) : Tr := .mk ⟨2,rangesV (makeR (a ++ b)),makeR (a ++ b),0,0,false,0,0⟩ .nil
noncomputable def joinT (out : List Tr) (k : Tr) : List Tr := match out.getLast? with
  | some t => if k.n.op = 2 /\ t.n.op = 2 then out.set (out.length - 1) (clsT t.n.rs k.n.rs) else out ++ [k]
  | none => out ++ [k]
noncomputable def joinedT (l : List Tr) : List Tr := l.foldl joinT []
noncomputable def altLT : Nat -> List Tr -> List Tr
  | 0,l => l
  | f + 1,l => if (joinedT (onceT l)).length = l.length then l else altLT f (joinedT (onceT l))
def openN (n : Nod) : Bool := n.op == 5 && !n.lz && n.mx == -1 && decide (n.mn <= 1)
def isOp2 (l : List Tr) : Bool := match l with
  | [] => false
  | t :: _ => t.n.op == 2
def rptT (n : Nod) (k : Tr) (l : List Tr) : Tr :=
  if k.n.op = 1 then k
  else if n.mn = 1 /\ n.mx = 1 then k
  else if n.mx = 0 /\ k.grp = false then tr0 1 []
  else if (openN { n with lz := n.lz && n.mn != n.mx } && (openN k.n && isOp2 k.ks)) = true then .mk { k.n with mn := k.n.mn * n.mn } (trsOf k.ks)
  else .mk { n with lz := n.lz && n.mn != n.mx } (trsOf l)
noncomputable def lessN (n : Nod) (l : List Tr) : Tr :=
  if n.op = 3 then underT 3 ((spreadT 3 l).filter fun t => t.n.op != 1)
  else if n.op = 4 then underT 4 (altLT (spreadT 4 l).length (spreadT 4 l))
  else if n.op = 5 then (match l with | k :: _ => rptT n k l | [] => .mk n .nil)
  else .mk n (trsOf l)
mutual
noncomputable def Tr.less : Tr -> Tr
  | .mk n ks => lessN n ks.less
noncomputable def Trs.less : Trs -> List Tr
  | .nil => []
  | .cons t ts => t.less :: ts.less
end
mutual
def Tr.flt : Tr -> List Nod
  | .mk n ks => { n with kids := (ks.len : Nat) } :: ks.flt
def Trs.flt : Trs -> List Nod
  | .nil => []
  | .cons t ts => t.flt ++ ts.flt
end
mutual
theorem Tr.flt_len : ∀ t : Tr,t.flt.length = t.cnt
  | .mk n ks => by simp only [Tr.flt,Tr.cnt,List.length_cons,Trs.flt_len ks]
theorem Trs.flt_len : ∀ ts : Trs,ts.flt.length = ts.cnt
  | .nil => rfl
  | .cons t ts => by simp only [Trs.flt,Trs.cnt,List.length_append,Tr.flt_len t,Trs.flt_len ts]
end
theorem canon_few : ∀ {l : List Rg} {b : Int},canon l -> (∀ x ∈ l,b <= x.1 /\ x.2 <= 1114111) -> 2 * (l.length : Int) <= max 0 (1114113 - b)
  | [],b,_,_ => by simp; omega
  | x :: l,b,hc,hb => by
    obtain ⟨h1,h2,h3⟩ := canon_tail hc
    have hx := hb x (List.mem_cons_self ..)
    have ih := canon_few (b := x.2 + 2) h1 fun y hy => by
      have hy2 := hb y (List.mem_cons_of_mem _ hy)
      have hle := h1.1 y hy
      have := h3 y.1 ⟨y,hy,Int.le_refl _,hle⟩
      omega
    rw [List.length_cons]; omega
theorem makeIs_few {l a : List Rg} (h : MakeIs l a) : a.length <= 557057 := by
  have hb : ∀ x ∈ a,0 <= x.1 /\ x.2 <= 1114111 := fun x hx => by
    have hle := h.1.1 x hx
    have g1 := ((h.2 x.1).1 ⟨x,hx,Int.le_refl _,hle⟩).1
    have g2 := ((h.2 x.2).1 ⟨x,hx,hle,Int.le_refl _⟩).1
    unfold isRune at g1 g2
    omega
  have := canon_few (b := 0) h.1 hb
  omega
def NdR (n : Nod) : Prop := n.rd = rangesV n.rs /\ n.rs.length <= 1048576
def Few (l : List Tr) : Prop := ∀ t ∈ l,t.fa NdR
theorem spread_few {op : Int} {l : List Tr} (h : Few l) : Few (spreadT op l) := by
  intro t ht
  obtain ⟨u,hu,ht⟩ := List.mem_flatMap.1 ht
  split at ht
  · exact (Tr.fa_eq.1 (h u hu)).2 t ht
  · simp only [List.mem_cons,List.not_mem_nil,or_false] at ht
    rw [ht]; exact h u hu
theorem spread_cnt (op : Int) : ∀ l : List Tr,cntL (spreadT op l) <= cntL l
  | [] => Nat.le_refl _
  | t :: l => by
    have := spread_cnt op l
    unfold spreadT at this ⊢
    rw [List.flatMap_cons,cntL_app,cntL_cons]
    have h2 := Tr.cnt_eq t
    split
    · omega
    · simp only [cntL_cons]; unfold cntL at this ⊢; simp only [List.map_nil,List.sum_nil]; omega
theorem filter_cnt (p : Tr -> Bool) : ∀ l : List Tr,cntL (l.filter p) <= cntL l
  | [] => Nat.le_refl _
  | t :: l => by
    have := filter_cnt p l
    rw [List.filter_cons,cntL_cons]
    split
    · rw [cntL_cons]; omega
    · omega
theorem nd0_r (op : Int) : NdR (nd0 op) := ⟨rfl,by simp [nd0]⟩
theorem tr0_fa {op : Int} {l : List Tr} (h : Few l) : (tr0 op l).fa NdR := mk_fa.2 ⟨nd0_r op,h⟩
theorem under_few {op : Int} {l : List Tr} (h : Few l) : (underT op l).fa NdR := by
  unfold underT
  split
  · exact tr0_fa (by intro t ht; cases ht)
  · exact h _ (List.mem_cons_self ..)
  · exact tr0_fa h
theorem under_cnt (op : Int) (l : List Tr) : (underT op l).cnt <= cntL l + 1 := by
  unfold underT
  split
  · unfold tr0; rw [mk_cnt]; omega
  · rw [cntL_cons]; omega
  · unfold tr0; rw [mk_cnt]; omega
theorem fold_ind {α β : Type} {f : β -> α -> β} {P : β -> Prop} {l : List α} (h : ∀ b a,a ∈ l -> P b -> P (f b a)) : ∀ b,P b -> P (l.foldl f b) := by
  induction l with
  | nil => exact fun b hb => hb
  | cons a l ih => exact fun b hb => ih (fun b a ha => h b a (List.mem_cons_of_mem _ ha)) _ (h b a (List.mem_cons_self ..) hb)
theorem once_few {l : List Tr} (h : Few l) : Few (onceT l) := by
  unfold onceT
  refine fold_ind (P := Few) (fun b a ha hb => ?_) _ (by intro t ht; cases ht)
  split
  · exact hb
  · intro t ht
    rcases List.mem_append.1 ht with ht | ht
    · exact hb t ht
    · simp only [List.mem_cons,List.not_mem_nil,or_false] at ht; rw [ht]; exact h a ha
theorem once_cnt' (l : List Tr) : ∀ b,cntL (l.foldl (fun out k => if out.any (fun x => x.same k) = true then out else out ++ [k]) b) <= cntL b + cntL l := by
  induction l with
  | nil => intro b; unfold cntL; simp
  | cons a l ih =>
    intro b
    rw [List.foldl_cons,cntL_cons]
    split
    · have := ih b; omega
    · have := ih (b ++ [a])
      rw [cntL_app,cntL_cons] at this
      unfold cntL at this ⊢
      simp only [List.map_nil,List.sum_nil] at this
      omega
theorem once_cnt (l : List Tr) : cntL (onceT l) <= cntL l := by
  have := once_cnt' l []
  unfold onceT
  unfold cntL at this ⊢
  simp only [List.map_nil,List.sum_nil] at this
  omega
theorem cls_r (a b : List Rg) : (makeR (a ++ b)).length <= 557057 := by
  unfold makeR
  split
  · rename_i h; exact makeIs_few (Classical.choose_spec h)
  · simp
theorem cls_fa (a b : List Rg) : (clsT a b).fa NdR := by
  unfold clsT
  simp only [Tr.fa,Trs.fa,and_true]
  exact ⟨rfl,by have := cls_r a b; show (makeR (a ++ b)).length <= _; omega⟩
theorem cntL_set {l : List Tr} {i : Nat} {t u : Tr} (h : l[i]? = some t) : cntL (l.set i u) + t.cnt = cntL l + u.cnt := by
  induction l generalizing i with
  | nil => simp at h
  | cons x l ih =>
    cases i with
    | zero => simp only [List.getElem?_cons_zero,Option.some.injEq] at h; subst h; rw [List.set_cons_zero,cntL_cons,cntL_cons]; omega
    | succ i => rw [List.set_cons_succ,cntL_cons,cntL_cons]; have := ih (i := i) (by simpa using h); omega
theorem tlast_get {l : List Tr} {t : Tr} (h : l.getLast? = some t) : l[l.length - 1]? = some t := by rw [<- h,List.getLast?_eq_getElem?]
theorem join_cnt (b : List Tr) (a : Tr) : cntL (joinT b a) <= cntL b + a.cnt := by
  unfold joinT
  split
  · rename_i t ht
    split
    · have := cntL_set (u := clsT t.n.rs a.n.rs) (tlast_get ht)
      have h1 : (clsT t.n.rs a.n.rs).cnt = 1 := by unfold clsT; simp [Tr.cnt,Trs.cnt]
      have h2 := Tr.cnt_eq t
      omega
    · rw [cntL_app,cntL_cons]; unfold cntL; simp
  · rw [cntL_app,cntL_cons]; unfold cntL; simp
theorem joined_cnt' (l : List Tr) : ∀ b,cntL (l.foldl joinT b) <= cntL b + cntL l := by
  induction l with
  | nil => intro b; unfold cntL; simp
  | cons a l ih => intro b; rw [List.foldl_cons,cntL_cons]; have := ih (joinT b a); have := join_cnt b a; omega
theorem joined_cnt (l : List Tr) : cntL (joinedT l) <= cntL l := by
  have := joined_cnt' l []
  unfold joinedT
  unfold cntL at this ⊢
  simp only [List.map_nil,List.sum_nil] at this
  omega
theorem join_few {b : List Tr} {a : Tr} (hb : Few b) (ha : a.fa NdR) : Few (joinT b a) := by
  have happ : Few (b ++ [a]) := by
    intro t ht
    rcases List.mem_append.1 ht with ht | ht
    · exact hb t ht
    · simp only [List.mem_cons,List.not_mem_nil,or_false] at ht; rw [ht]; exact ha
  unfold joinT
  split
  · split
    · intro t ht
      rcases List.mem_or_eq_of_mem_set ht with ht | rfl
      · exact hb t ht
      · exact cls_fa _ _
    · exact happ
  · exact happ
theorem joined_few {l : List Tr} (h : Few l) : Few (joinedT l) := by
  unfold joinedT
  exact fold_ind (P := Few) (fun b a ha hb => join_few hb (h a ha)) _ (by intro t ht; cases ht)
theorem altLT_few : ∀ (f : Nat) {l : List Tr},Few l -> Few (altLT f l) /\ cntL (altLT f l) <= cntL l
  | 0,l,h => ⟨h,Nat.le_refl _⟩
  | f + 1,l,h => by
    unfold altLT
    split
    · exact ⟨h,Nat.le_refl _⟩
    · obtain ⟨h1,h2⟩ := altLT_few f (joined_few (once_few h))
      have := joined_cnt (onceT l)
      have := once_cnt l
      exact ⟨h1,by omega⟩
theorem rpt_few {n : Nod} {k : Tr} {l : List Tr} (hn : NdR n) (h : Few l) (hk : k ∈ l) : (rptT n k l).fa NdR := by
  have hkk := h k hk
  unfold rptT
  split
  · exact hkk
  split
  · exact hkk
  split
  · exact tr0_fa (by intro t ht; cases ht)
  split
  · exact mk_fa.2 ⟨(Tr.fa_eq.1 hkk).1,(Tr.fa_eq.1 hkk).2⟩
  · exact mk_fa.2 ⟨hn,h⟩
theorem rpt_cnt {n : Nod} {k : Tr} {l : List Tr} (hk : k ∈ l) : (rptT n k l).cnt <= cntL l + 1 := by
  have := cntL_mem hk
  unfold rptT
  split
  · omega
  split
  · omega
  split
  · unfold tr0; rw [mk_cnt]; unfold cntL; simp
  split
  · rw [mk_cnt]; have := Tr.cnt_eq k; omega
  · rw [mk_cnt]; omega
theorem lessN_few {n : Nod} {l : List Tr} (hn : NdR n) (h : Few l) : (lessN n l).fa NdR /\ (lessN n l).cnt <= cntL l + 1 := by
  unfold lessN
  split
  · have h1 := filter_cnt (fun t => t.n.op != 1) (spreadT 3 l)
    have h2 := spread_cnt 3 l
    have h3 := under_cnt 3 ((spreadT 3 l).filter fun t => t.n.op != 1)
    exact ⟨under_few fun t ht => spread_few h t (List.mem_filter.1 ht).1,by omega⟩
  split
  · obtain ⟨h1,h2⟩ := altLT_few (spreadT 4 l).length (spread_few (op := 4) h)
    have h3 := spread_cnt 4 l
    have h4 := under_cnt 4 (altLT (spreadT 4 l).length (spreadT 4 l))
    exact ⟨under_few h1,by omega⟩
  split
  · cases l with
    | nil => exact ⟨by simp only [Tr.fa,Trs.fa,and_true]; exact hn,by simp [Tr.cnt,Trs.cnt,cntL]⟩
    | cons k l => exact ⟨rpt_few hn h (List.mem_cons_self ..),rpt_cnt (List.mem_cons_self ..)⟩
  · exact ⟨mk_fa.2 ⟨hn,h⟩,by rw [mk_cnt]; omega⟩
mutual
theorem Tr.less_few : ∀ (t : Tr),t.fa NdR -> t.less.fa NdR /\ t.less.cnt <= t.cnt
  | .mk n ks,h => by
    simp only [Tr.fa] at h
    obtain ⟨h1,h2⟩ := Trs.less_few ks h.2
    obtain ⟨h3,h4⟩ := lessN_few h.1 h1
    simp only [Tr.less,Tr.cnt]
    exact ⟨h3,by omega⟩
theorem Trs.less_few : ∀ (ts : Trs),ts.fa NdR -> Few ts.less /\ cntL ts.less <= ts.cnt
  | .nil,_ => ⟨by intro t ht; simp [Trs.less] at ht,by simp [Trs.less,cntL]⟩
  | .cons t ts,h => by
    simp only [Trs.fa] at h
    obtain ⟨h1,h2⟩ := Tr.less_few t h.1
    obtain ⟨h3,h4⟩ := Trs.less_few ts h.2
    simp only [Trs.less,Trs.cnt]
    refine ⟨fun u hu => ?_,by rw [cntL_cons]; omega⟩
    rcases List.mem_cons.1 hu with rfl | hu
    · exact h1
    · exact h3 u hu
end
mutual
theorem Tr.flt_v : ∀ (t : Tr),t.fa NdR -> t.cnt <= 1048576 -> ∀ n ∈ t.flt,NdV n
  | .mk n ks,h,hc => by
    simp only [Tr.fa] at h
    simp only [Tr.cnt] at hc
    have ih := Trs.flt_v ks h.2 (by omega)
    simp only [Tr.flt,List.mem_cons]
    rintro m (rfl | hm)
    · have h1 := trs_len ks
      have h2 := cntL_len ks.l
      rw [<- trs_cnt] at h2
      exact ⟨h.1.1,h.1.2,by show ((ks.len : Nat) : Int) <= _; omega⟩
    · exact ih m hm
theorem Trs.flt_v : ∀ (ts : Trs),ts.fa NdR -> ts.cnt <= 1048576 -> ∀ n ∈ ts.flt,NdV n
  | .nil,_,_ => by simp [Trs.flt]
  | .cons t ts,h,hc => by
    simp only [Trs.fa] at h
    simp only [Trs.cnt] at hc
    have h1 := Tr.flt_v t h.1 (by omega)
    have h2 := Trs.flt_v ts h.2 (by omega)
    simp only [Trs.flt,List.mem_append]
    rintro m (hm | hm)
    · exact h1 m hm
    · exact h2 m hm
end
def ixF_Jq (fr : Go.V.Fr) (k : Nat) : Go.V.D := Go.V.nth .junk fr.loc k
theorem rows_cellsJ {st : St} {s : Nat} {x : D} {es : List (List D)} (h : V.Rows st s x es) : x.cells? = some [x] := by cases h <;> rfl
theorem chk_smallJ {x y : Oper} {fi fj : Fr} {si si' sj sj' : St} {a : Operand} {k ver off v : Nat} {ar : Bool} {c : List D} (hy : rdOp? y.op = none) (hx : rdOp? x.op = some a) (ha : fi.ev a = .ptr k ver off) (h1 : sj.bs[k]? = some (.mem v ar c)) (h2 : sj'.bs[k]? = some (.mem v ar c)) (h3 : si.bs[k]? = some (.mem v ar c)) (hr : refs c <= si.bs.length) : pairOk x fi si si' y fj sj sj' = true := by
 unfold pairOk;simp only [hy,hx,ha,D.box?,Bool.and_eq_true];refine ⟨stillB_of h1 h2,?_⟩;unfold smallB;simp only [h3]
 split
 ·rfl
 ·simpa using hr
structure Pg.okR (st : St) (p : Pg) : Prop where
 c : V.Rows st 4 p.cd (p.code.map insC)
 s : V.Rows st 1 p.sd (p.starts.map intC)
 i : ∀ x ∈ p.code,V.Rows st 2 x.rd (x.rs.map rangeC) /\ x.rs.length <= 1048576
 cl : p.code.length <= 1048576
 sl : p.starts.length <= 1048576
theorem Pg.okR.to {s0 S st : St} {H : List Ent} {p : Pg} (h : p.okR s0) (hS : S.bs = s0.bs) (hH : Has s0.bs.length S st H) : p.okR st :=
 ⟨(Arg.of h.c hS).rows hH,(Arg.of h.s hS).rows hH,fun x hx => ⟨(Arg.of (h.i x hx).1 hS).rows hH,(h.i x hx).2⟩,h.cl,h.sl⟩
theorem shapedR_ev {s0 : St} {p : Pg} {pc : Nat} {i : PIns} (hp : p.okR s0) (hi : p.code[pc]? = some i) : Ev pv 48 [p.d, .int .i64 (pc : Nat)] s0 (.bool (shapedS p.code.length p.starts.length pc i)) s0 := by
 refine Ev.mk1 rfl fi48 rfl rfl rfl ?_;refine zE ?_;obtain ⟨hSb,hF,hH⟩ := ri s0;generalize enterSt .ro s0 = S at *;have hc := Arg.of hp.c hSb;have hs := Arg.of hp.s hSb;have hio := hp.i i (List.mem_of_getElem? hi);have hir := Arg.of hio.1 hSb;have hil := hio.2;have hrc := rows_cellsJ hio.1;have hrf := hir.2;have hSl : S.bs.length = s0.bs.length := by rw [hSb]
 have hcl := hp.cl;have hsl := hp.sl;have hr := ins_get hi;have hlt := lt_get hi;unfold Pg.d;refine zQ 2 ?_;refine qb hH fun k2 st hk2 hH => ?_;dsimp only [u2,u1,u3,u4,setMany,u5,u6,D.cells,Nat.reduceAdd,Pg.cs,insC,intC] at hH;refine zQ 7 ?_;refine qr fun p10 hp10 => ?_;refine EvO.rloadS rfl (ev rfl) (by assumption) rfl (by dsimp only [Fr.put,u1,u2] <;> rfl) ?_;refine qa hH fun k5 st hk5 hH => ?_;refine qS hH at0 fun st hH => ?_;dsimp only [u2,u1,u3,u4,setMany,u5,u6,D.cells,Nat.reduceAdd,Pg.cs,insC,intC] at hH;refine zQ 7 ?_;refine qn ?_;simp only [List.length_map];refine zQ 5 ?_;refine EvC.cutL 36 (.bool (((i.op != 1) && decide ((i.rs.length : Int) > 0)) || ((i.op != 2) && (i.y != 0)))) [18,19,20,21,22,23,24,25,26,27,28,29,30,31,32,33,34,35] ?_ (fun ff tmp => ?_)
 ·refine zQ 4 ?_;refine EvO.two 21 rfl (fun hg3 => ?_) (fun hg3 => ?_)
  ·refine zQ 2 ?_;refine qn ?_ (hg := wi hg3);simp only [List.length_map];refine zQ 3 ?_;refine EvO.two 27 rfl (fun hg9 => ?_) (fun hg9 => ?_)
   ·refine zQ 9 ?_;refine EvO.nil (leafL ?_);refine zG ?_
    all_goals (simp_all; done)
   ·refine zQ 4 ?_;refine EvO.two 31 rfl (fun hg13 => ?_) (fun hg13 => ?_)
    ·refine zQ 3 ?_;refine EvO.pickT (wantD_is rfl rfl rfl hg9) rfl hg13 (by dsimp only [Fr.put,u1,u2] <;> rfl) ?_;refine zQ 1 ?_;refine EvO.nil (leafL ?_);refine zG ?_
     all_goals (simp_all; done)
    ·refine zQ 3 ?_;refine EvO.pickF (wantD_is rfl rfl rfl hg9) rfl hg13 (by dsimp only [Fr.put,u1,u2] <;> rfl) ?_;refine zQ 1 ?_;refine EvO.nil (leafL ?_);refine zG ?_
     all_goals (simp_all; done)
  ·refine zQ 10 ?_;refine EvO.two 31 rfl (fun hg13 => ?_) (fun hg13 => ?_)
   ·refine zQ 5 ?_;refine EvO.nil (leafL ?_);refine zG ?_
    all_goals (simp [hg3,hg13]; done)
   ·refine zQ 5 ?_;refine EvO.nil (leafL ?_);refine zG ?_
    all_goals (simp [hg3,hg13]; done)
 dsimp only [setW,List.foldl,nth,u2,u1];generalize ff 18 = e18;generalize ff 19 = e19;generalize ff 20 = e20;generalize ff 21 = e21;generalize ff 22 = e22;generalize ff 23 = e23;generalize ff 24 = e24;generalize ff 25 = e25;generalize ff 26 = e26;generalize ff 27 = e27;generalize ff 28 = e28;generalize ff 29 = e29;generalize ff 30 = e30;generalize ff 31 = e31;generalize ff 32 = e32;generalize ff 33 = e33;generalize ff 34 = e34;generalize ff 35 = e35;have hlen0 : (i.rs.isEmpty = !decide ((i.rs.length : Int) > 0)) := by cases i.rs <;> simp <;> omega
 have hsh : shapedS p.code.length p.starts.length pc i = if ((i.op != 1) && decide ((i.rs.length : Int) > 0)) || ((i.op != 2) && (i.y != 0)) then false else
   (if i.op = 1 then (decide (((pc + 1 : Nat) : Int) < p.code.length) && i.x == 0) && rightS i.rs
   else if i.op = 2 then inS i.x p.code.length && inS i.y p.code.length
   else if i.op = 3 then inS i.x p.code.length
   else if i.op = 4 then decide (((pc + 1 : Nat) : Int) < p.code.length) && inS i.x 10
   else if i.op = 5 then decide (((pc + 1 : Nat) : Int) < p.code.length) && i.x == 0
   else if i.op = 6 then decide (((pc + 1 : Nat) : Int) < p.code.length) && i.x == 0
   else if i.op = 7 then inS i.x p.starts.length
   else false) := by
  unfold shapedS;rw [hlen0];generalize decide ((i.rs.length : Int) > 0) = b
  by_cases h1 : i.op = 1
  ·have h2 : i.op ≠ 2 := by omega
   simp only [h1]; cases b <;> by_cases hy : i.y = 0 <;> simp [hy]
  ·by_cases h2 : i.op = 2
   ·simp only [h2]; cases b <;> simp
   ·by_cases h56 : i.op = 5
    ·simp only [h56]; cases b <;> by_cases hy : i.y = 0 <;> simp [hy]
    ·cases b <;> by_cases hy : i.y = 0 <;> simp [h1,h2,h56,hy]
 rw [hsh];refine qc (fun h0 => ?_) (fun h0 => ?_) <;> try simp only [cs] at h0
 ·refine zQ 4 ?_;rw [if_pos h0];refine EvC.ret ⟨rx,_,rfl,rl hSb hH (rfl)⟩
 ·rw [if_neg (by rw [h0]; simp)];refine zQ 13 ?_;refine zI (fun h1 => ?_) fun h1 => ?_
  ·rw [if_pos h1];refine qq ?_;refine EvC.cutL 4 (.bool ((decide (((pc + 1 : Nat) : Int) < p.code.length) && (i.x == 0)) && rightS i.rs)) [] ?_ (fun ff tmp => ?_)
   ·refine zQ 2 ?_;refine EvO.two 42 rfl (fun hg1 => ?_) (fun hg1 => ?_)
    ·refine zQ 5 ?_;refine EvO.two 47 rfl (fun hg6 => ?_) (fun hg6 => ?_)
     ·refine zQ 2 ?_;refine qv (right_ev (hir.rows hH) hil) ?_ (hg := wi hg6);refine zQ 2 ?_;refine EvO.nil (leafL ?_);refine zG ?_
      all_goals (simp [hg1,hg6]; done)
     ·refine zQ 5 ?_;refine EvO.nil (leafL ?_);refine zG ?_
      all_goals (simp [hg1,hg6]; done)
    ·refine zQ 10 ?_;refine EvO.nil (leafL ?_);refine zG ?_
     all_goals (simp [hg1]; done)
   dsimp only [setW,List.foldl,nth,u2,u1];refine EvC.ret ⟨rx,_,rfl,rl hSb hH (rfl)⟩
  ·rw [if_neg h1];refine zQ 5 ?_;refine zI (fun h2 => ?_) fun h2 => ?_
   ·rw [if_pos h2];refine qq ?_;refine EvC.cutL 4 (.bool (inS i.x p.code.length && inS i.y p.code.length)) [] ?_ (fun ff tmp => ?_)
    ·refine zQ 4 ?_;refine qn ?_;simp only [List.length_map];refine qv (within_ev _ _) ?_;refine qm ?_;refine EvO.two 60 rfl (fun hg6 => ?_) (fun hg6 => ?_)
     ·refine zQ 4 ?_;refine qn ?_ (hg := wi hg6);simp only [List.length_map];refine qv (within_ev _ _) ?_ (hg := wi hg6);refine zQ 2 ?_;refine EvO.nil (leafL ?_);refine zG ?_
      all_goals (simp [hg6]; done)
     ·refine zQ 8 ?_;refine EvO.nil (leafL ?_);refine zG ?_
      all_goals (simp [hg6]; done)
    dsimp only [setW,List.foldl,nth,u2,u1];refine EvC.ret ⟨rx,_,rfl,rl hSb hH (rfl)⟩
   ·rw [if_neg h2];refine zQ 5 ?_;refine zI (fun h3 => ?_) fun h3 => ?_
    ·rw [if_pos h3];refine zQ 6 ?_;refine qn ?_;simp only [List.length_map];refine qv (within_ev _ _) ?_;refine zQ 2 ?_;refine EvC.ret ⟨rx,_,rfl,rl hSb hH (rfl)⟩
    ·rw [if_neg h3];refine zQ 5 ?_;refine zI (fun h4 => ?_) fun h4 => ?_
     ·rw [if_pos h4];refine qq ?_;refine EvC.cutL 4 (.bool (decide (((pc + 1 : Nat) : Int) < p.code.length) && inS i.x 10)) [] ?_ (fun ff tmp => ?_)
      ·refine zQ 2 ?_;refine EvO.two 79 rfl (fun hg1 => ?_) (fun hg1 => ?_)
       ·refine zQ 2 ?_;refine qv (within_ev _ _) ?_ (hg := wi hg1);refine zQ 2 ?_;refine EvO.nil (leafL ?_);refine zG ?_
        all_goals (simp [hg1]; done)
       ·refine zQ 5 ?_;refine EvO.nil (leafL ?_);refine zG ?_
        all_goals (simp [hg1]; done)
      dsimp only [setW,List.foldl,nth,u2,u1];refine EvC.ret ⟨rx,_,rfl,rl hSb hH (rfl)⟩
     ·rw [if_neg h4];refine zQ 6 ?_
      by_cases h5 : i.op = 5
      ·rw [if_pos h5];refine qD rfl (by simp [h5]) ?_;refine zQ 1 ?_;refine qD rfl (by simp [h5]) ?_;refine qq ?_;refine EvC.cutL 4 (.bool (decide (((pc + 1 : Nat) : Int) < p.code.length) && (i.x == 0))) [] ?_ (fun ff tmp => ?_)
       ·refine zQ 2 ?_;refine EvO.two 88 rfl (fun hg1 => ?_) (fun hg1 => ?_)
        ·refine zQ 5 ?_;refine EvO.nil (leafL ?_);refine zG ?_
         all_goals (simp [hg1]; done)
        ·refine zQ 5 ?_;refine EvO.nil (leafL ?_);refine zG ?_
         all_goals (simp [hg1]; done)
       dsimp only [setW,List.foldl,nth,u2,u1];refine EvC.ret ⟨rx,_,rfl,rl hSb hH (rfl)⟩
      ·rw [if_neg h5];refine qE rfl (by simp [h5]) ?_;refine zQ 4 ?_;refine zI (fun h6 => ?_) fun h6 => ?_
       ·rw [if_pos h6];refine qq ?_;refine EvC.cutL 4 (.bool (decide (((pc + 1 : Nat) : Int) < p.code.length) && (i.x == 0))) [] ?_ (fun ff tmp => ?_)
        ·refine zQ 2 ?_;refine EvO.two 88 rfl (fun hg1 => ?_) (fun hg1 => ?_)
         ·refine zQ 5 ?_;refine EvO.nil (leafL ?_);refine zG ?_
          all_goals (simp [hg1]; done)
         ·refine zQ 5 ?_;refine EvO.nil (leafL ?_);refine zG ?_
          all_goals (simp [hg1]; done)
        dsimp only [setW,List.foldl,nth,u2,u1];refine EvC.ret ⟨rx,_,rfl,rl hSb hH (rfl)⟩
       ·rw [if_neg h6];refine zQ 5 ?_;refine zI (fun h7 => ?_) fun h7 => ?_
        ·rw [if_pos h7];refine zQ 6 ?_;refine qn ?_;simp only [List.length_map];refine qv (within_ev _ _) ?_;refine zQ 2 ?_;refine EvC.ret ⟨rx,_,rfl,rl hSb hH (rfl)⟩
        ·rw [if_neg h7];refine zQ 5 ?_;refine EvC.ret ⟨rx,_,rfl,rl hSb hH (rfl)⟩
theorem insR_ev {s0 : St} {p : Pg} {pc : Nat} {i : PIns} (hp : p.okR s0) (hi : p.code[pc]? = some i) : Ev pv 51 [p.d, .int .i64 (pc : Nat)] s0 (.bool (shapedS p.code.length p.starts.length pc i)) s0 := by
 refine Ev.mk1 rfl fi51 rfl rfl rfl ?_;refine zE ?_;obtain ⟨hSb,hF,hH⟩ := ri s0;generalize enterSt .ro s0 = S at *;have hc := Arg.of hp.c hSb;have hs := Arg.of hp.s hSb;have hio := hp.i i (List.mem_of_getElem? hi);have hrd := hio.1;have hir := Arg.of hio.1 hSb;have hil := hio.2;have hrc := rows_cellsJ hio.1;have hrf := hir.2;have hSl : S.bs.length = s0.bs.length := by rw [hSb]
 have hcl := hp.cl;have hsl := hp.sl;have hr := ins_get hi;have hlt := lt_get hi;unfold Pg.d;refine qq ?_;refine qj fun K hK => ?_;refine qb hH fun k2 st hk2 hH => ?_;dsimp only [u2,u1,u3,u4,setMany,u5,u6,D.cells,Nat.reduceAdd,Pg.cs,insC,intC] at hH;refine qm ?_;refine qe hK ?_;refine qq ?_;refine qj fun K hK => ?_;refine qp (o := 0) ?_;refine ql hH at0 ?_;refine qm ?_;refine qr fun p12 hp12 => ?_;refine EvO.rloadS rfl (ev rfl) (by assumption) rfl (by dsimp only [Fr.put,u1,u2] <;> rfl) ?_;refine qa hH fun k5 st hk5 hH => ?_;refine qS hH at0 fun st hH => ?_;dsimp only [u2,u1,u3,u4,setMany,u5,u6,D.cells,Nat.reduceAdd,Pg.cs,insC,intC] at hH;refine qe hK ?_;refine qq ?_;refine qj fun K hK => ?_;refine qp (o := 0) ?_;refine ql hH at1 ?_;refine qn ?_;simp only [List.length_map];refine qm ?_;refine qe hK ?_;refine qq ?_;refine qj fun K hK => ?_;refine qp (o := 0) ?_;refine ql hH at0 ?_;refine EvO.go (d := .agg [.int .i64 i.op, .int .i64 0, .int .i64 0, .nul]) (st1 := _) rfl rfl rfl (by dsimp only [Fr.put,u1,u2] <;> rfl) ?_;refine qa hH fun k7 st hk7 hH => ?_;refine qS hH at0 fun st hH => ?_;dsimp only [u2,u1,u3,u4,setMany,u5,u6,D.cells,Nat.reduceAdd,Pg.cs,insC,intC] at hH;refine qe hK ?_;refine qq ?_;refine qj fun K hK => ?_;refine qm ?_;refine qe hK ?_;refine qq ?_;refine qq ?_;refine qj fun K hK => ?_;refine qp (o := 0) ?_;refine ql hH at1 ?_;refine qe hK ?_;refine EvC.merge (fun fr st => ∃ (bx bz : Int) (brd : D) (fl : Bool) (brs : List Rg) (tmp : List (Nat × D)),fr = ⟨22, [ixF_Jq fr 0, .int .i64 (pc : Nat), .ptr k2 0 0,ixF_Jq fr 3, .bool false, .ptr k5 0 0, .int .i64 (p.code.length : Nat), .ptr k7 0 0, .bool fl,ixF_Jq fr 9,ixF_Jq fr 10,ixF_Jq fr 11,ixF_Jq fr 12,ixF_Jq fr 13,ixF_Jq fr 14,ixF_Jq fr 15,ixF_Jq fr 16,ixF_Jq fr 17,ixF_Jq fr 18,ixF_Jq fr 19,ixF_Jq fr 20,ixF_Jq fr 21],tmp⟩ /\ Has s0.bs.length S st [.box k7 (.mem 0 false [.int .i64 i.op, .int .i64 bx, .int .i64 bz,brd]), .box k5 (.mem 0 false [.int .i64 i.op, .int .i64 i.x, .int .i64 i.y,i.rd]), .box k2 (.mem 0 false [p.cd,p.sd])] /\ (Arg s0.bs.length S 2 brd (brs.map rangeC)) /\ (shapedS p.code.length p.starts.length pc i = (((i.x == bx) && (i.y == bz)) && ((i.rs.length : Int) == brs.length) && (!fl || decide (((pc + 1 : Nat) : Int) < p.code.length))))) ?_ ?_
 ·refine EvC.block ?_;refine qq ?_;refine qj fun K hK => ?_;refine qg ?_;refine qm ?_;refine qe hK ?_;refine zI (fun h1 => ?_) fun h1 => ?_
  ·have hsp : shapedS p.code.length p.starts.length pc i = (i.y == 0 && (decide (((pc + 1 : Nat) : Int) < p.code.length) && i.x == 0 && rightS i.rs)) := by unfold shapedS; rw [if_pos h1]
   refine qq ?_;refine qj fun K hK => ?_;refine qp (o := 3) ?_;refine ql hH at1 ?_;refine qp (o := 3) ?_;refine EvO.hstore hH rfl (ev rfl) (ev rfl) (by assumption) (by exact rfl) (by exact at0) (by exact Nat.le_of_ble_eq_true rfl) (by exact .inl hF) (fun st hH => ?_);dsimp only [u2,u1,u3,u4,setMany,u5,u6,D.cells,Nat.reduceAdd,Pg.cs,insC,intC] at hH;refine qe hK ?_;refine qq ?_;refine EvC.cutT 30 (.bool (!rightS i.rs)) [] ?_ (fun ff tmp htmp => ?_)
   ·refine qp (o := 3) ?_;refine ql hH at1 ?_;refine qv (refRight_ev (hir.rows hH) hil) ?_;refine qg ?_;refine EvO.nil (leafT ?_ ?_)
    ·dsimp only [setW,List.foldl,nth,u2,u1]
     all_goals (first | rfl | simp)
    ·exact zS
     all_goals (first | rfl | (simp []; done) | (simp_all; done) | (simp []; omega) | (simp_all; omega))
   dsimp only [setW,List.foldl,nth,u2,u1];refine EvC.cond (by assumption) (fun h2 => ?_) (fun h2 => ?_) <;> try simp only [Bool.not_eq_true',Bool.not_eq_false'] at h2
   ·refine qq ?_;refine qj fun K hK => ?_;refine qm ?_;refine qe hK ?_;rw [hsp,h2];simp only [Bool.and_false];refine EvC.ret ⟨rx,_,rfl,rl hSb hH (rfl)⟩
   ·refine EvC.skip ?_;refine ⟨0,0,i.rd,true,i.rs,_,rfl,hH,hir,?_⟩;rw [hsp,h2];cases hx : (i.x == 0) <;> cases hy : (i.y == 0) <;> simp
  ·have hsp : shapedS p.code.length p.starts.length pc i = (i.rs.isEmpty && (if i.op = 2 then inS i.x p.code.length && inS i.y p.code.length
  else i.y == 0 &&
   (if i.op = 3 then inS i.x p.code.length
   else if i.op = 4 then decide (((pc + 1 : Nat) : Int) < p.code.length) && inS i.x 10
   else if i.op = 5 \/ i.op = 6 then decide (((pc + 1 : Nat) : Int) < p.code.length) && i.x == 0
   else if i.op = 7 then inS i.x p.starts.length
   else false))) := by unfold shapedS; rw [if_neg h1]
   have hem : i.rs.isEmpty = ((i.rs.length : Int) == (([] : List Rg).length : Int)) := by cases i.rs <;> simp <;> omega
   have hnl : Arg s0.bs.length S 2 .nul (([] : List Rg).map rangeC) := ⟨.nul,by simp [D.ref]⟩
   refine qq ?_;refine qj fun K hK => ?_;refine qg ?_;refine qm ?_;refine qe hK ?_;refine zI (fun h2 => ?_) fun h2 => ?_
   ·rw [if_pos h2] at hsp;refine qq ?_;refine qj fun K hK => ?_;refine qm ?_;refine qe hK ?_;have hH0 := hH;change EvC _ _ _ _ _ _;refine qq ?_;generalize hK : SeqQ _ _ _ _ = K;refine EvC.regY rfl ?_;refine EvY.cons ?_;refine qp (o := 1) ?_;refine EvO.nil ⟨rfl,?_⟩;refine EvY.cons ?_;refine ql hH at1 ?_;refine EvO.nil ⟨rfl,?_⟩;refine EvY.cons ?_;refine qp (o := 2) ?_;refine EvO.nil ⟨rfl,?_⟩;refine EvY.cons ?_;refine ql hH at1 ?_;refine EvO.nil ⟨rfl,?_⟩;refine EvY.cons ?_;refine qp (o := 1) ?_;refine EvO.nil ⟨rfl,?_⟩;refine EvY.cons ?_;refine qT hH at0 fun st hH => ?_;dsimp only [u2,u1,u3,u4,setMany,u5,u6,D.cells,Nat.reduceAdd,Pg.cs,insC,intC] at hH;refine EvO.nil ⟨by exact Bool.and_eq_true_iff.2 ⟨chk_smallJ rfl rfl rfl (hH0.at at1) (hH.at at1) (hH0.at at1) (by simp only [refs,D.ref]; have := hH0.ex.len; omega),rfl⟩,?_⟩;refine EvY.cons ?_;refine qp (o := 2) ?_;refine EvO.nil ⟨rfl,?_⟩;refine EvY.cons ?_;refine qT hH at0 fun st hH => ?_;dsimp only [u2,u1,u3,u4,setMany,u5,u6,D.cells,Nat.reduceAdd,Pg.cs,insC,intC] at hH;refine EvO.nil ⟨rfl,?_⟩;refine EvY.nil ?_;subst hK;refine qq ?_;refine EvC.cutT 58 (.bool (((decide (i.x < 0) || decide (i.x >= p.code.length)) || decide (i.y < 0)) || decide (i.y >= p.code.length))) [] ?_ (fun ff tmp htmp => ?_)
    ·refine qp (o := 1) ?_;refine ql hH at1 ?_;refine qg ?_;refine qm ?_;refine EvO.two 42 rfl (fun hg3 => ?_) (fun hg3 => ?_)
     ·refine qs ?_ (hg := wn hg3);refine qs ?_ (hg := wn hg3);refine qs ?_ (hg := wn hg3);refine qs ?_ (hg := wn hg3);refine qt hg3 ?_;refine qm ?_;refine qs ?_;refine qs ?_;refine qs ?_;refine qg ?_;refine qm ?_;refine qs ?_;refine qs ?_;refine qs ?_;refine qs ?_;refine qg ?_;refine EvO.nil (leafT ?_ ?_)
      ·dsimp only [setW,List.foldl,nth,u2,u1]
       all_goals (first | rfl | simp)
      ·refine zF ?_
       all_goals (simp [hg3]; done)
     ·refine qp (o := 1) ?_ (hg := wi hg3);refine ql hH at1 ?_ (hg := wi hg3);refine qm ?_ (hg := wi hg3);refine qg ?_ (hg := wi hg3);refine qu hg3 ?_;refine qm ?_;refine EvO.two 48 rfl (fun hg9 => ?_) (fun hg9 => ?_)
      ·refine qs ?_ (hg := wn hg9);refine qs ?_ (hg := wn hg9);refine qs ?_ (hg := wn hg9);refine qt hg9 ?_;refine qm ?_;refine qs ?_;refine qs ?_;refine qs ?_;refine qs ?_;refine qg ?_;refine EvO.nil (leafT ?_ ?_)
       ·dsimp only [setW,List.foldl,nth,u2,u1]
        all_goals (first | rfl | simp)
       ·refine zF ?_
        all_goals (simp [hg3,hg9]; done)
      ·refine qp (o := 2) ?_ (hg := wi hg9);refine ql hH at1 ?_ (hg := wi hg9);refine qg ?_ (hg := wi hg9);refine qu hg9 ?_;refine qm ?_;refine EvO.two 53 rfl (fun hg14 => ?_) (fun hg14 => ?_)
       ·refine qs ?_ (hg := wn hg14);refine qs ?_ (hg := wn hg14);refine qs ?_ (hg := wn hg14);refine qs ?_ (hg := wn hg14);refine qt hg14 ?_;refine EvO.nil (leafT ?_ ?_)
        ·dsimp only [setW,List.foldl,nth,u2,u1]
         all_goals (first | rfl | simp)
        ·refine zF ?_
         all_goals (simp [hg3,hg9,hg14]; done)
       ·refine qp (o := 2) ?_ (hg := wi hg14);refine ql hH at1 ?_ (hg := wi hg14);refine qm ?_ (hg := wi hg14);refine qg ?_ (hg := wi hg14);refine qu hg14 ?_;refine EvO.nil (leafT ?_ ?_)
        ·dsimp only [setW,List.foldl,nth,u2,u1]
         all_goals (first | rfl | simp)
        ·refine zF ?_
         all_goals (simp [hg3,hg9,hg14]; done)
    dsimp only [setW,List.foldl,nth,u2,u1]
    have hin : (inS i.x p.code.length && inS i.y p.code.length) = !(((decide (i.x < 0) || decide (i.x >= p.code.length)) || decide (i.y < 0)) || decide (i.y >= p.code.length)) := by
     unfold inS; simp only [Bool.not_or, <- decide_not,Int.not_lt,Int.not_le,ge_iff_le,Bool.and_assoc]
    refine qc (fun h3 => ?_) (fun h3 => ?_) <;> try simp only [cs] at h3
    ·refine qq ?_;refine qj fun K hK => ?_;refine qm ?_;refine qe hK ?_;rw [hsp,hin,h3];simp only [Bool.not_true,Bool.and_false];refine EvC.ret ⟨rx,_,rfl,rl hSb hH (rfl)⟩
    ·refine EvC.skip ?_;exact ⟨i.x,i.y, .nul,false, [],_,rfl,hH,hnl,by rw [hsp,hin,h3,hem]; simp⟩
   ·rw [if_neg h2] at hsp;refine qq ?_;refine qj fun K hK => ?_;refine qg ?_;refine qm ?_;refine qe hK ?_;refine zI (fun h3 => ?_) fun h3 => ?_
    ·rw [if_pos h3] at hsp;refine qq ?_;refine qj fun K hK => ?_;refine qm ?_;refine qe hK ?_;refine qq ?_;refine qj fun K hK => ?_;refine qp (o := 1) ?_;refine ql hH at1 ?_;refine qp (o := 1) ?_;refine qT hH at0 fun st hH => ?_;dsimp only [u2,u1,u3,u4,setMany,u5,u6,D.cells,Nat.reduceAdd,Pg.cs,insC,intC] at hH;refine qe hK ?_;refine qq ?_;refine EvC.cutT 72 (.bool (decide (i.x < 0) || decide (i.x >= p.code.length))) [] ?_ (fun ff tmp htmp => ?_)
     ·refine qp (o := 1) ?_;refine ql hH at1 ?_;refine qg ?_;refine qm ?_;refine EvO.two 67 rfl (fun hg3 => ?_) (fun hg3 => ?_)
      ·refine qs ?_ (hg := wn hg3);refine qs ?_ (hg := wn hg3);refine qs ?_ (hg := wn hg3);refine qs ?_ (hg := wn hg3);refine qt hg3 ?_;refine EvO.nil (leafT ?_ ?_)
       ·dsimp only [setW,List.foldl,nth,u2,u1]
        all_goals (first | rfl | simp)
       ·refine zF ?_
        all_goals (simp [hg3]; done)
      ·refine qp (o := 1) ?_ (hg := wi hg3);refine ql hH at1 ?_ (hg := wi hg3);refine qm ?_ (hg := wi hg3);refine qg ?_ (hg := wi hg3);refine qu hg3 ?_;refine EvO.nil (leafT ?_ ?_)
       ·dsimp only [setW,List.foldl,nth,u2,u1]
        all_goals (first | rfl | simp)
       ·refine zF ?_
        all_goals (simp [hg3]; done)
     dsimp only [setW,List.foldl,nth,u2,u1]
     have hin : inS i.x p.code.length = !(decide (i.x < 0) || decide (i.x >= p.code.length)) := by
      unfold inS; simp only [Bool.not_or, <- decide_not,Int.not_lt,Int.not_le,ge_iff_le]
     refine qc (fun h4 => ?_) (fun h4 => ?_) <;> try simp only [cs] at h4
     ·refine qq ?_;refine qj fun K hK => ?_;refine qm ?_;refine qe hK ?_;rw [hsp,hin,h4];simp only [Bool.not_true,Bool.and_false];refine EvC.ret ⟨rx,_,rfl,rl hSb hH (rfl)⟩
     ·refine EvC.skip ?_;exact ⟨i.x,0, .nul,false, [],_,rfl,hH,hnl,by rw [hsp,hin,h4,hem]; cases (i.y == 0) <;> simp⟩
    ·rw [if_neg h3] at hsp;refine qq ?_;refine qj fun K hK => ?_;refine qg ?_;refine qm ?_;refine qe hK ?_;refine zI (fun h4 => ?_) fun h4 => ?_
     ·rw [if_pos h4] at hsp;refine qq ?_;refine qj fun K hK => ?_;refine qp (o := 1) ?_;refine ql hH at1 ?_;refine qp (o := 1) ?_;refine qT hH at0 fun st hH => ?_;dsimp only [u2,u1,u3,u4,setMany,u5,u6,D.cells,Nat.reduceAdd,Pg.cs,insC,intC] at hH;refine qe hK ?_;refine qq ?_;refine EvC.cutT 85 (.bool (decide (i.x < 0) || decide (i.x >= 10))) [] ?_ (fun ff tmp htmp => ?_)
      ·refine qp (o := 1) ?_;refine ql hH at1 ?_;refine qg ?_;refine qm ?_;refine EvO.two 81 rfl (fun hg3 => ?_) (fun hg3 => ?_)
       ·refine qs ?_ (hg := wn hg3);refine qs ?_ (hg := wn hg3);refine qs ?_ (hg := wn hg3);refine qt hg3 ?_;refine EvO.nil (leafT ?_ ?_)
        ·dsimp only [setW,List.foldl,nth,u2,u1]
         all_goals (first | rfl | simp)
        ·refine zF ?_
         all_goals (simp [hg3]; done)
       ·refine qp (o := 1) ?_ (hg := wi hg3);refine ql hH at1 ?_ (hg := wi hg3);refine qg ?_ (hg := wi hg3);refine qu hg3 ?_;refine EvO.nil (leafT ?_ ?_)
        ·dsimp only [setW,List.foldl,nth,u2,u1]
         all_goals (first | rfl | simp)
        ·refine zF ?_
         all_goals (simp [hg3]; done)
      dsimp only [setW,List.foldl,nth,u2,u1]
      have hin : inS i.x 10 = !(decide (i.x < 0) || decide (i.x >= 10)) := by
       unfold inS; simp only [Bool.not_or, <- decide_not,Int.not_lt,Int.not_le,ge_iff_le]
      refine qc (fun h5 => ?_) (fun h5 => ?_) <;> try simp only [cs] at h5
      ·refine qq ?_;refine qj fun K hK => ?_;refine qm ?_;refine qe hK ?_;rw [hsp,hin,h5];simp only [Bool.not_true,Bool.and_false];refine EvC.ret ⟨rx,_,rfl,rl hSb hH (rfl)⟩
      ·refine EvC.skip ?_;exact ⟨i.x,0, .nul,true, [],_,rfl,hH,hnl,by rw [hsp,hin,h5,hem]; cases (i.y == 0) <;> simp⟩
     ·rw [if_neg h4] at hsp;refine qq ?_;refine qq ?_;refine qj fun K hK => ?_;refine qg ?_;refine qm ?_;refine qe hK ?_
      by_cases h5 : i.op = 5
      ·rw [if_pos (.inl h5)] at hsp;refine qD rfl (by simp [h5]) ?_;refine EvC.skip ?_;refine qD rfl (by simp [h5]) ?_;refine EvC.skip ?_;exact ⟨0,0, .nul,true, [],_,rfl,hH,hnl,by rw [hsp,hem]; cases (i.y == 0) <;> cases (i.x == 0) <;> simp⟩
      ·refine qE rfl (by simp [h5]) ?_;refine qj fun K hK => ?_;refine qg ?_;refine qm ?_;refine qe hK ?_;refine zI (fun h6 => ?_) fun h6 => ?_
       ·rw [if_pos (.inr h6)] at hsp;refine EvC.skip ?_;exact ⟨0,0, .nul,true, [],_,rfl,hH,hnl,by rw [hsp,hem]; cases (i.y == 0) <;> cases (i.x == 0) <;> simp⟩
       ·rw [if_neg (by omega)] at hsp;refine qq ?_;refine qj fun K hK => ?_;refine qg ?_;refine qm ?_;refine qe hK ?_;refine zI (fun h7 => ?_) fun h7 => ?_
        ·rw [if_pos h7] at hsp;refine qq ?_;refine qj fun K hK => ?_;refine qm ?_;refine qe hK ?_;refine qq ?_;refine qj fun K hK => ?_;refine qp (o := 1) ?_;refine ql hH at1 ?_;refine qp (o := 1) ?_;refine qT hH at0 fun st hH => ?_;dsimp only [u2,u1,u3,u4,setMany,u5,u6,D.cells,Nat.reduceAdd,Pg.cs,insC,intC] at hH;refine qe hK ?_;refine qq ?_;refine EvC.cutT 104 (.bool (decide (i.x < 0) || decide (i.x >= p.starts.length))) [] ?_ (fun ff tmp htmp => ?_)
         ·refine qp (o := 1) ?_;refine ql hH at1 ?_;refine qg ?_;refine qm ?_;refine EvO.two 97 rfl (fun hg3 => ?_) (fun hg3 => ?_)
          ·refine qs ?_ (hg := wn hg3);refine qs ?_ (hg := wn hg3);refine qs ?_ (hg := wn hg3);refine qs ?_ (hg := wn hg3);refine qs ?_ (hg := wn hg3);refine qs ?_ (hg := wn hg3);refine qt hg3 ?_;refine EvO.nil (leafT ?_ ?_)
           ·dsimp only [setW,List.foldl,nth,u2,u1]
            all_goals (first | rfl | simp)
           ·refine zF ?_
            all_goals (simp [hg3]; done)
          ·refine qp (o := 1) ?_ (hg := wi hg3);refine ql hH at1 ?_ (hg := wi hg3);refine qp (o := 1) ?_ (hg := wi hg3);refine ql hH at2 ?_ (hg := wi hg3);refine qn ?_ (hg := wi hg3);simp only [List.length_map];refine qg ?_ (hg := wi hg3);refine qu hg3 ?_;refine EvO.nil (leafT ?_ ?_)
           ·dsimp only [setW,List.foldl,nth,u2,u1]
            all_goals (first | rfl | simp)
           ·refine zF ?_
            all_goals (simp [hg3]; done)
         dsimp only [setW,List.foldl,nth,u2,u1]
         have hin : inS i.x p.starts.length = !(decide (i.x < 0) || decide (i.x >= p.starts.length)) := by
          unfold inS; simp only [Bool.not_or, <- decide_not,Int.not_lt,Int.not_le,ge_iff_le]
         refine qc (fun h8 => ?_) (fun h8 => ?_) <;> try simp only [cs] at h8
         ·refine qq ?_;refine qj fun K hK => ?_;refine qm ?_;refine qe hK ?_;rw [hsp,hin,h8];simp only [Bool.not_true,Bool.and_false];refine EvC.ret ⟨rx,_,rfl,rl hSb hH (rfl)⟩
         ·refine EvC.skip ?_;exact ⟨i.x,0, .nul,false, [],_,rfl,hH,hnl,by rw [hsp,hin,h8,hem]; cases (i.y == 0) <;> simp⟩
        ·rw [if_neg h7] at hsp;refine qq ?_;refine qj fun K hK => ?_;refine qm ?_;refine qe hK ?_;rw [hsp];simp only [Bool.and_false];refine EvC.ret ⟨rx,_,rfl,rl hSb hH (rfl)⟩
 ·rintro fr st ⟨bx,bz,brd,fl,brs,tmp,hfr,hH,hbr,hsh⟩;rw [hfr];clear hfr;generalize ixF_Jq fr = ee;clear fr;have hbr2 := hbr;refine qq ?_;refine EvC.cutL 4 (.bool ((((i.x == bx) && (i.y == bz)) && ((i.rs.length : Int) == brs.length)) && (!fl || decide (((pc + 1 : Nat) : Int) < p.code.length)))) [] ?_ (fun ff tmp => ?_)
  ·refine qp (o := 1) ?_;refine ql hH at1 ?_;refine qp (o := 1) ?_;refine ql hH at0 ?_;refine qg ?_;refine qm ?_;refine EvO.two 110 rfl (fun hg5 => ?_) (fun hg5 => ?_)
   ·refine qp (o := 2) ?_ (hg := wi hg5);refine ql hH at1 ?_ (hg := wi hg5);refine qp (o := 2) ?_ (hg := wi hg5);refine ql hH at0 ?_ (hg := wi hg5);refine qg ?_ (hg := wi hg5);refine qt hg5 ?_;refine qm ?_;refine EvO.two 117 rfl (fun hg12 => ?_) (fun hg12 => ?_)
    ·refine qp (o := 3) ?_ (hg := wi hg12);refine ql hH at1 ?_ (hg := wi hg12);refine qn ?_ (hg := wi hg12);simp only [List.length_map];refine qp (o := 3) ?_ (hg := wi hg12);refine ql hH at0 ?_ (hg := wi hg12);refine qn ?_ (hg := wi hg12);simp only [List.length_map];refine qg ?_ (hg := wi hg12);refine qt hg12 ?_;refine qm ?_;refine EvO.two 126 rfl (fun hg21 => ?_) (fun hg21 => ?_)
     ·refine qm ?_ (hg := wi hg21);refine qg ?_ (hg := wi hg21);refine qm ?_ (hg := wi hg21);refine EvO.two 129 rfl (fun hg24 => ?_) (fun hg24 => ?_)
      ·refine qs ?_ (hg := wn hg24);refine qs ?_ (hg := wn hg24);refine qs ?_ (hg := wn hg24);refine qs ?_ (hg := wn hg24);refine EvO.pickT (wantD_is rfl rfl rfl hg21) rfl hg24 (put_T rfl _) ?_;refine qt hg21 ?_;refine qm ?_;refine EvO.nil (leafL ?_);refine zG ?_
       all_goals (simp [hg5,hg12,hg21,hg24]; done)
      ·refine qm ?_ (hg := wi hg24);refine qA ?_ (hg := wi hg24);refine qm ?_ (hg := wi hg24);refine qg ?_ (hg := wi hg24);refine EvO.pickF (wantD_is rfl rfl rfl hg21) rfl hg24 (put_T rfl _) ?_;refine qt hg21 ?_;refine qm ?_;refine EvO.nil (leafL ?_);refine zG ?_
       all_goals (simp [hg5,hg12,hg21,hg24]; done)
     ·refine qs ?_ (hg := wn hg21);refine qs ?_ (hg := wn hg21);refine qs ?_ (hg := wn hg21);refine qs ?_;refine qs ?_;refine qs ?_;refine qs ?_;refine qs ?_ (hg := wn hg21);refine qu hg21 ?_;refine qm ?_;refine EvO.nil (leafL ?_);refine zG ?_
      all_goals (simp [hg5,hg12,hg21]; done)
    ·refine qs ?_ (hg := wn hg12);refine qs ?_ (hg := wn hg12);refine qs ?_ (hg := wn hg12);refine qs ?_ (hg := wn hg12);refine qs ?_ (hg := wn hg12);refine qs ?_ (hg := wn hg12);refine qs ?_ (hg := wn hg12);refine qu hg12 ?_;refine qm ?_;refine qs ?_;refine qs ?_;refine qs ?_;refine qs ?_;refine qs ?_;refine qs ?_;refine qs ?_;refine qs ?_;refine qg ?_;refine qm ?_;refine EvO.nil (leafL ?_);refine zG ?_
     all_goals (simp [hg5,hg12]; done)
   ·refine qs ?_ (hg := wn hg5);refine qs ?_ (hg := wn hg5);refine qs ?_ (hg := wn hg5);refine qs ?_ (hg := wn hg5);refine qs ?_ (hg := wn hg5);refine qu hg5 ?_;refine qm ?_;refine qs ?_;refine qs ?_;refine qs ?_;refine qs ?_;refine qs ?_;refine qs ?_;refine qs ?_;refine qg ?_;refine qm ?_;refine qs ?_;refine qs ?_;refine qs ?_;refine qs ?_;refine qs ?_;refine qs ?_;refine qs ?_;refine qs ?_;refine qg ?_;refine qm ?_;refine EvO.nil (leafL ?_);refine zG ?_
    all_goals (simp [hg5]; done)
  dsimp only [setW,List.foldl,nth,u2,u1];rw [hsh];refine EvC.ret ⟨rx,_,rfl,rl hSb hH (rfl)⟩
theorem fromR_ev {s0 : St} {cd : D} {code : List PIns} {start : Int} (hcd : V.Rows s0 4 cd (code.map insC)) (hlen : code.length <= 1048576) (hcl : closedS code) (hst : 0 <= start /\ start < code.length) : Ev pv 50 [cd, .int .i64 start] s0 (boolsV (reachS code start)) s0 := by
 refine Ev.mk1 rfl fi50 rfl rfl rfl ?_;refine zE ?_;obtain ⟨hSb,hF,hH⟩ := ri s0;generalize enterSt .ro s0 = S at *;have hc := Arg.of hcd hSb;refine zQ 7 ?_;refine qn ?_;simp only [List.length_map];refine EvO.hmake (s := 1) hH rfl rfl rfl rfl rfl rfl rfl rfl (Nat.le_of_ble_eq_true rfl) (by omega) (fun _ => by dsimp only [Fr.put,u1,u2] <;> rfl) (fun k11 st hk11 hH => ?_);refine zQ 5 ?_;refine qh (s := 1) (vs := [_]) hH fun k13 st hk13 hH => ?_;refine zQ 4 ?_;refine EvC.loop (fun mm fr st => ∃ (y z : D) (seen : List Bool) (stk : List Int),fr.clean = ⟨41, [cd,ixF_Jq fr 1,ixF_Jq fr 2,ixF_Jq fr 3, .nul,y,z,ixF_Jq fr 7,ixF_Jq fr 8,ixF_Jq fr 9,ixF_Jq fr 10,ixF_Jq fr 11,ixF_Jq fr 12,ixF_Jq fr 13,ixF_Jq fr 14,ixF_Jq fr 15,ixF_Jq fr 16,ixF_Jq fr 17,ixF_Jq fr 18,ixF_Jq fr 19,ixF_Jq fr 20,ixF_Jq fr 21,ixF_Jq fr 22,ixF_Jq fr 23,ixF_Jq fr 24,ixF_Jq fr 25,ixF_Jq fr 26,ixF_Jq fr 27,ixF_Jq fr 28,ixF_Jq fr 29,ixF_Jq fr 30,ixF_Jq fr 31,ixF_Jq fr 32,ixF_Jq fr 33,ixF_Jq fr 34,ixF_Jq fr 35,ixF_Jq fr 36,ixF_Jq fr 37,ixF_Jq fr 38,ixF_Jq fr 39,ixF_Jq fr 40], []⟩ /\ Has s0.bs.length S st [.lst z 1 (stk.reverse.map intC), .lst y 1 (seen.map boolC)] /\ (dfs code mm seen stk = reachS code start) /\ (3 * seen.count false + stk.length <= mm) /\ (seen.length = code.length) /\ (∀ v ∈ stk,0 <= v /\ v < (code.length : Int)) /\ (mm <= 3 * code.length + 1)) (3 * code.length + 1) ?_ ?_
 ·exact ⟨_,_,List.replicate code.length false, [start],rfl,(by rw [List.map_replicate]; exact hH),rfl,by simp,by simp,by simpa using hst,by omega⟩
 rintro mm fr st ⟨y,z,seen,stk,hfr,hH,hd,hm,hsl,hsk,hmm⟩;rw [hfr];clear hfr;generalize ixF_Jq fr = ee;clear fr
 rcases stk with _ | ⟨v,stk⟩
 ·refine zQ 4 ?_;refine qn ?_ (hR := hH.rows at0);simp only [List.length_map,List.length_nil,List.length_reverse];refine zQ 2 ?_;refine EvC.cond (v := false) (by dsimp only [Fr.ev,Fr.get,nth,V.look]; rfl) (fun h => by cases h) (fun _ => ?_);refine zQ 6 ?_;have hfin : seen = reachS code start := by rw [<- hd]; cases mm <;> rfl
  rw [<- hfin];refine EvC.ret ⟨rx,_,rfl,rl hSb hH ?_⟩;exact hH.freeze at1 (bool_plain _) (n := 15) (by decide)
 ·have hv := hsk v (List.mem_cons_self ..);obtain ⟨k,rfl⟩ := Int.eq_ofNat_of_zero_le hv.1;have hk : k < code.length := by omega
  simp only [List.length_cons] at hm
  obtain ⟨mm,rfl⟩ : ∃ m',mm = m' + 1 := ⟨mm - 1,by omega⟩
  obtain ⟨b,hb⟩ : ∃ b,seen[k]? = some b := ⟨seen[k]'(by omega),List.getElem?_eq_getElem _⟩
  obtain ⟨i,hi⟩ : ∃ i,code[k]? = some i := ⟨code[k]'(by omega),List.getElem?_eq_getElem _⟩
  have hr1 := stk_last (k : Int) stk;have hr2 := bool_get hb;have hr3 := ins_get hi;refine zQ 4 ?_;refine qn ?_ (hR := hH.rows at0);simp only [List.length_map,List.length_cons,List.length_reverse];refine zQ 2 ?_;refine qD rfl (by simp) ?_;refine zQ 6 ?_;refine qn ?_ (hR := hH.rows at0);simp only [List.length_map,List.length_cons,List.length_reverse];refine EvO.subZ (z := ((stk.length : Nat) : Int)) rfl (ev rfl) (ev rfl) (by (try simp only [List.length_reverse,List.length_cons,List.length_nil,List.length_append,List.length_map,List.length_set]); rw [wrap_i64 (by omega) (by omega)] <;> omega) (by dsimp only [Fr.put,u1,u2] <;> rfl) ?_;refine qi hH at0 fun p21 hp21 => ?_;refine zQ 7 ?_;refine qn ?_ (hR := hH.rows at0);simp only [List.length_map,List.length_cons,List.length_reverse];refine EvO.subZ (z := ((stk.length : Nat) : Int)) rfl (ev rfl) (ev rfl) (by (try simp only [List.length_reverse,List.length_cons,List.length_nil,List.length_append,List.length_map,List.length_set]); rw [wrap_i64 (by omega) (by omega)] <;> omega) (by dsimp only [Fr.put,u1,u2] <;> rfl) ?_;refine EvO.oslice hH rfl (ev rfl) (by exact at0) rfl rfl (bounds_to (by simp only [List.length_map,List.length_reverse,List.length_cons,List.length_append,List.length_nil,List.length_take,List.length_drop,List.length_set,List.length_replicate]; omega)) ⟨(by omega),(by simp only [List.length_map,List.length_reverse,List.length_cons,List.length_append,List.length_nil,List.length_take,List.length_drop,List.length_set,List.length_replicate]; omega)⟩ (fun _ => by dsimp only [Fr.put,u1,u2] <;> rfl) (fun y27 hH => ?_);refine zQ 2 ?_;dsimp only [u2] at hH;rw [stk_pop] at hH;have hst : ∀ w ∈ stk,0 <= w /\ w < (code.length : Int) := fun w hw => hsk w (List.mem_cons_of_mem _ hw);refine zQ 5 ?_;refine qi hH at1 fun p30 hp30 => ?_;refine zQ 2 ?_
  cases b with
  | true =>
   refine zQ 2 ?_;simp only [dfs,Int.toNat_natCast,hb] at hd;exact ⟨mm,by omega,⟨_,_,seen,stk,rfl,hH,hd,by omega,hsl,hst,by omega⟩⟩
  | false =>
   have hcnt := count_set hb;have hset : (seen.set k true).map boolC = (seen.map boolC).set k [.bool true] := by rw [List.map_set]; rfl
   simp only [dfs,Int.toNat_natCast,hb,hi] at hd;have hnx := hcl k i hi;have hnl := next_len k i
   have hsk2 : ∀ w ∈ (nextS k i).reverse ++ stk,0 <= w /\ w < (code.length : Int) := fun w hw => by
    rcases List.mem_append.1 hw with hw | hw
    ·exact hnx w (List.mem_reverse.1 hw)
    ·exact hst w hw
   have hrev : (((nextS k i).reverse ++ stk).reverse).map intC = stk.reverse.map intC ++ (nextS k i).map intC := by
    rw [List.reverse_append,List.reverse_reverse,List.map_append]
   refine zQ 6 ?_;refine qi hH at1 fun p34 hp34 => ?_;refine EvO.ostore hH rfl (ev rfl) (ev rfl) (by assumption) rfl rfl (by exact at1) (by assumption) (Nat.le_of_ble_eq_true rfl) (by exact .inl hF) (fun st hH => ?_);dsimp only [u2,u1,u3,u4,setMany,u5,u6,D.cells,Nat.reduceAdd,insC,intC,boolC] at hH;refine zQ 5 ?_;refine qr fun p37 hp37 => ?_;refine EvO.rloadS rfl (ev rfl) (by assumption) rfl (by dsimp only [Fr.put,u1,u2] <;> rfl) ?_;refine qa hH fun k8 st hk8 hH => ?_;refine qS hH at0 fun st hH => ?_;dsimp only [u2,u1,u3,u4,setMany,u5,u6,D.cells,Nat.reduceAdd,insC,intC,boolC] at hH;refine zQ 6 ?_;refine EvC.merge (fun fr st => ∃ (z : D) (tmp : List (Nat × D)),fr = ⟨41, [cd,ixF_Jq fr 1,ixF_Jq fr 2,ixF_Jq fr 3, .nul,y,z,ixF_Jq fr 7,ixF_Jq fr 8,ixF_Jq fr 9,ixF_Jq fr 10,ixF_Jq fr 11,ixF_Jq fr 12,ixF_Jq fr 13,ixF_Jq fr 14,ixF_Jq fr 15,ixF_Jq fr 16,ixF_Jq fr 17,ixF_Jq fr 18,ixF_Jq fr 19,ixF_Jq fr 20,ixF_Jq fr 21,ixF_Jq fr 22,ixF_Jq fr 23,ixF_Jq fr 24,ixF_Jq fr 25,ixF_Jq fr 26,ixF_Jq fr 27,ixF_Jq fr 28,ixF_Jq fr 29,ixF_Jq fr 30,ixF_Jq fr 31,ixF_Jq fr 32,ixF_Jq fr 33,ixF_Jq fr 34,ixF_Jq fr 35,ixF_Jq fr 36,ixF_Jq fr 37,ixF_Jq fr 38,ixF_Jq fr 39,ixF_Jq fr 40],tmp⟩ /\ Has s0.bs.length S st [.lst z 1 (stk.reverse.map intC ++ (nextS k i).map intC), .lst y 1 ((seen.map boolC).set k [.bool true])]) ?_ ?_
   ·refine zQ 6 ?_;refine zI (fun h2 => ?_) fun h2 => ?_
    ·have : nextS k i = [i.x,i.y] := by unfold nextS; rw [if_pos h2]
     rw [this];refine zQ 6 ?_;refine qh (s := 1) (vs := [_,_]) hH fun k53 st hk53 hH => ?_;refine EvO.happend (s := 1) hH rfl (ev rfl) (ev rfl) (by exact at2) (by exact hH.rows (by exact at0)) rfl rfl rfl rfl rfl rfl rfl ⟨(Nat.le_of_ble_eq_true rfl),(Nat.le_of_ble_eq_true rfl)⟩ (fun _ => (put_T rfl _)) (by simp only [List.length_cons,List.length_nil,List.length_map,List.length_reverse] <;> omega) (by exact .inl hF) (fun x54 st hH => ?_);dsimp only [u2,u1,u3,u4,setMany,u5,u6,D.cells,Nat.reduceAdd,insC,intC,boolC] at hH;refine zQ 2 ?_;exact ⟨_,_,rfl,(by have := hH.drop 2; exact this)⟩
    ·refine zQ 5 ?_;refine zI (fun h3 => ?_) fun h3 => ?_
     ·have : nextS k i = [i.x] := by unfold nextS; rw [if_neg h2,if_pos h3]
      rw [this];refine zQ 4 ?_;refine qh (s := 1) (vs := [_]) hH fun k60 st hk60 hH => ?_;refine EvO.happend (s := 1) hH rfl (ev rfl) (ev rfl) (by exact at2) (by exact hH.rows (by exact at0)) rfl rfl rfl rfl rfl rfl rfl ⟨(Nat.le_of_ble_eq_true rfl),(Nat.le_of_ble_eq_true rfl)⟩ (fun _ => (put_T rfl _)) (by simp only [List.length_cons,List.length_nil,List.length_map,List.length_reverse] <;> omega) (by exact .inl hF) (fun x61 st hH => ?_);dsimp only [u2,u1,u3,u4,setMany,u5,u6,D.cells,Nat.reduceAdd,insC,intC,boolC] at hH;refine zQ 2 ?_;exact ⟨_,_,rfl,(by have := hH.drop 2; exact this)⟩
     ·refine zQ 5 ?_;refine zI (fun h7 => ?_) fun h7 => ?_
      ·have : nextS k i = [] := by unfold nextS; rw [if_neg h2,if_neg h3,if_pos h7]
       rw [this,List.map_nil,List.append_nil];refine zQ 1 ?_;exact ⟨_,_,rfl,(by have := hH.drop 1; exact this)⟩
      ·have : nextS k i = [((k + 1 : Nat) : Int)] := by unfold nextS; rw [if_neg h2,if_neg h3,if_neg h7]
       rw [this];refine zQ 4 ?_;refine qh (s := 1) (vs := [_]) hH fun k44 st hk44 hH => ?_;refine EvO.happend (s := 1) hH rfl (ev rfl) (ev rfl) (by exact at2) (by exact hH.rows (by exact at0)) rfl rfl rfl rfl rfl rfl rfl ⟨(Nat.le_of_ble_eq_true rfl),(Nat.le_of_ble_eq_true rfl)⟩ (fun _ => (put_T rfl _)) (by simp only [List.length_cons,List.length_nil,List.length_map,List.length_reverse] <;> omega) (by exact .inl hF) (fun x45 st hH => ?_);dsimp only [u2,u1,u3,u4,setMany,u5,u6,D.cells,Nat.reduceAdd,insC,intC,boolC] at hH;refine zQ 2 ?_;exact ⟨_,_,rfl,(by have := hH.drop 2; exact this)⟩
   ·rintro fr st ⟨z,tmp,hfr,hH⟩;rw [hfr];clear hfr;generalize ixF_Jq fr = ee;clear fr;exact ⟨mm,by omega,⟨y,z,seen.set k true,(nextS k i).reverse ++ stk,rfl,(by rw [hrev,hset]; exact hH),hd,by simp only [List.length_append,List.length_reverse]; omega,by simp only [List.length_set]; exact hsl,hsk2,by omega⟩⟩
theorem nextR_ev {s0 : St} {p : Pg} {pc : Nat} {i : PIns} (hp : p.okR s0) (hi : p.code[pc]? = some i) : Ev pv 79 [p.d, .int .i64 (pc : Nat)] s0 (intsV (nextS pc i)) s0 := by
 refine Ev.mk1 rfl fi79 rfl rfl rfl ?_;refine zE ?_;obtain ⟨hSb,hF,hH⟩ := ri s0;generalize enterSt .ro s0 = S at *;have hc := Arg.of hp.c hSb;have hrd := (hp.i i (List.mem_of_getElem? hi)).1;have hcl := hp.cl;have hr := ins_get hi;have hlt := lt_get hi;unfold Pg.d;refine zQ 2 ?_;refine qb hH fun k2 st hk2 hH => ?_;dsimp only [u2,u1,u3,u4,setMany,u5,u6,D.cells,Nat.reduceAdd,Pg.cs,insC,intC,boolC] at hH;refine zQ 7 ?_;refine qr fun p9 hp9 => ?_;refine EvO.rloadS rfl (ev rfl) (by assumption) rfl (by dsimp only [Fr.put,u1,u2] <;> rfl) ?_;refine qa hH fun k5 st hk5 hH => ?_;refine qS hH at0 fun st hH => ?_;dsimp only [u2,u1,u3,u4,setMany,u5,u6,D.cells,Nat.reduceAdd,Pg.cs,insC,intC,boolC] at hH;refine zQ 13 ?_;refine zI (fun h2 => ?_) fun h2 => ?_
 ·have : nextS pc i = [i.x,i.y] := by unfold nextS; rw [if_pos h2]
  rw [this];refine zQ 6 ?_;refine qh (s := 1) (vs := [_,_]) hH fun k19 st hk19 hH => ?_;refine zQ 2 ?_;refine EvC.ret ⟨rx,_,rfl,rl hSb hH ?_⟩;exact hH.freeze at0 (int_plain [i.x,i.y]) (n := 15) (by decide)
 ·refine zQ 5 ?_;refine zI (fun h3 => ?_) fun h3 => ?_
  ·have : nextS pc i = [i.x] := by unfold nextS; rw [if_neg h2,if_pos h3]
   rw [this];refine zQ 4 ?_;refine qh (s := 1) (vs := [_]) hH fun k24 st hk24 hH => ?_;refine zQ 2 ?_;refine EvC.ret ⟨rx,_,rfl,rl hSb hH ?_⟩;exact hH.freeze at0 (int_plain [i.x]) (n := 15) (by decide)
  ·refine zQ 5 ?_;refine zI (fun h7 => ?_) fun h7 => ?_
   ·have : nextS pc i = [] := by unfold nextS; rw [if_neg h2,if_neg h3,if_pos h7]
    rw [this];refine zQ 4 ?_;refine EvC.ret ⟨rx,_,rfl,rl hSb hH (rfl)⟩
   ·have : nextS pc i = [((pc + 1 : Nat) : Int)] := by unfold nextS; rw [if_neg h2,if_neg h3,if_neg h7]
    rw [this];refine zQ 5 ?_;refine qh (s := 1) (vs := [_]) hH fun k29 st hk29 hH => ?_;refine zQ 2 ?_;refine EvC.ret ⟨rx,_,rfl,rl hSb hH ?_⟩;exact hH.freeze at0 (int_plain [((pc + 1 : Nat) : Int)]) (n := 15) (by decide)
theorem refReachR_ev {s0 : St} {p : Pg} {rule : Int} (hp : p.okR s0) (hcl : closedS p.code) (hst : ∀ v ∈ p.starts,0 <= v /\ v < p.code.length) : Ev pv 52 [p.d, .int .i64 rule] s0 (boolsV (reachR p rule)) s0 := by
 refine Ev.mk1 rfl fi52 rfl rfl rfl ?_;refine zE ?_;obtain ⟨hSb,hF,hH⟩ := ri s0;generalize enterSt .ro s0 = S at *;have hc := Arg.of hp.c hSb;have hs := Arg.of hp.s hSb;have hcd := hp.c;have hlen := hp.cl;have hsl0 := hp.sl;unfold Pg.d;refine zQ 2 ?_;refine qb hH fun k2 st hk2 hH => ?_;dsimp only [u2,u1,u3,u4,setMany,u5,u6,D.cells,Nat.reduceAdd,Pg.cs,insC,intC,boolC] at hH;refine zQ 6 ?_;refine qn ?_;simp only [List.length_map];refine EvO.hmake (s := 1) hH rfl rfl rfl rfl rfl rfl rfl rfl (Nat.le_of_ble_eq_true rfl) (by omega) (fun _ => (put_T rfl _)) (fun k11 st hk11 hH => ?_);refine zQ 2 ?_
 have hnot : inS rule p.starts.length = !(decide (rule < 0) || decide (rule >= p.starts.length)) := by
  unfold inS; simp only [Bool.not_or, <- decide_not,Int.not_lt,Int.not_le,ge_iff_le]
 refine zQ 2 ?_;refine EvC.cutT 20 (.bool (decide (rule < 0) || decide (rule >= p.starts.length))) [] ?_ (fun ff tmp htmp => ?_)
 ·refine zQ 3 ?_;refine EvO.two 14 rfl (fun hg2 => ?_) (fun hg2 => ?_)
  ·refine zQ 6 ?_;refine EvO.nil (leafT ?_ ?_)
   ·dsimp only [setW,List.foldl,nth,u2,u1]
    all_goals (first | rfl | simp)
   ·refine zF ?_
    all_goals (simp [hg2]; done)
  ·refine zQ 3 ?_;refine qn ?_ (hg := wi hg2);simp only [List.length_map];refine zQ 2 ?_;refine EvO.nil (leafT ?_ ?_)
   ·dsimp only [setW,List.foldl,nth,u2,u1]
    all_goals (first | rfl | simp)
   ·refine zF ?_
    all_goals (simp [hg2]; done)
 dsimp only [setW,List.foldl,nth,u2,u1];refine qc (fun h0 => ?_) (fun h0 => ?_) <;> try simp only [cs] at h0
 ·have hR : reachR p rule = List.replicate p.code.length false := by unfold reachR; rw [hnot,h0]; rfl
  rw [hR];refine zQ 5 ?_;have hH : Has s0.bs.length S st [.lst (.win k11 0 0 p.code.length 1) 1 ((List.replicate p.code.length false).map boolC), .box k2 (.mem 0 false [p.cd,p.sd])] := by rw [List.map_replicate]; exact hH
  refine EvC.ret ⟨rx,_,rfl,rl hSb hH ?_⟩;exact hH.freeze at0 (bool_plain _) (n := 15) (by decide)
 ·have hin : inS rule p.starts.length = true := by rw [hnot,h0]; rfl
  have hR : reachR p rule = reachS p.code (p.starts.getD rule.toNat 0) := by unfold reachR; rw [if_pos hin]
  rw [hR];unfold inS at hin;simp only [Bool.and_eq_true,decide_eq_true_eq] at hin;obtain ⟨ru,rfl⟩ := Int.eq_ofNat_of_zero_le hin.1
  obtain ⟨start,hs1⟩ : ∃ v,p.starts[ru]? = some v := ⟨p.starts[ru]'(by omega),List.getElem?_eq_getElem _⟩
  have hr0 := int_get hs1;have hst := hst start (List.mem_of_getElem? hs1);rw [show p.starts.getD (ru : Int).toNat 0 = start by rw [Int.toNat_natCast,List.getD_eq_getElem?_getD,hs1]; rfl];refine zQ 6 ?_;refine qr fun p25 hp25 => ?_;refine qR ?_;refine qh (s := 1) (vs := [_]) hH fun k27 st hk27 hH => ?_;refine zQ 4 ?_;refine EvC.loop (fun mm fr st => ∃ (y z : D) (seen : List Bool) (stk : List Int),fr.clean = ⟨8, [ixF_Jq fr 0,ixF_Jq fr 1, .ptr k2 0 0,ixF_Jq fr 3, .nul,y,z,ixF_Jq fr 7], []⟩ /\ Has s0.bs.length S st [.lst z 1 (stk.reverse.map intC), .lst y 1 (seen.map boolC), .box k2 (.mem 0 false [p.cd,p.sd])] /\ (dfs p.code mm seen stk = reachS p.code start) /\ (3 * seen.count false + stk.length <= mm) /\ (seen.length = p.code.length) /\ (∀ v ∈ stk,0 <= v /\ v < (p.code.length : Int)) /\ (mm <= 3 * p.code.length + 1)) (3 * p.code.length + 1) ?_ ?_
  ·exact ⟨_,_,List.replicate p.code.length false, [start],rfl,(by rw [List.map_replicate]; exact hH),rfl,by simp,by simp,by simpa using hst,by omega⟩
  rintro mm fr st ⟨y,z,seen,stk,hfr,hH,hd,hm,hsl,hsk,hmm⟩;rw [hfr];clear hfr;generalize ixF_Jq fr = ee;clear fr
  rcases stk with _ | ⟨v,stk⟩
  ·refine zQ 4 ?_;refine qn ?_ (hR := hH.rows at0);simp only [List.length_map,List.length_nil,List.length_reverse];refine zQ 2 ?_;refine EvC.cond (v := false) (by dsimp only [Fr.ev,Fr.get,nth,V.look]; rfl) (fun h => by cases h) (fun _ => ?_);refine zQ 6 ?_;have hfin : seen = reachS p.code start := by rw [<- hd]; cases mm <;> rfl
   rw [<- hfin];refine EvC.ret ⟨rx,_,rfl,rl hSb hH ?_⟩;exact hH.freeze at1 (bool_plain _) (n := 15) (by decide)
  ·have hv := hsk v (List.mem_cons_self ..);obtain ⟨k,rfl⟩ := Int.eq_ofNat_of_zero_le hv.1;have hk : k < p.code.length := by omega
   simp only [List.length_cons] at hm
   obtain ⟨mm,rfl⟩ : ∃ m',mm = m' + 1 := ⟨mm - 1,by omega⟩
   obtain ⟨b,hb⟩ : ∃ b,seen[k]? = some b := ⟨seen[k]'(by omega),List.getElem?_eq_getElem _⟩
   obtain ⟨i,hi⟩ : ∃ i,p.code[k]? = some i := ⟨p.code[k]'(by omega),List.getElem?_eq_getElem _⟩
   have hr1 := stk_last (k : Int) stk;have hr2 := bool_get hb;refine zQ 4 ?_;refine qn ?_ (hR := hH.rows at0);simp only [List.length_map,List.length_cons,List.length_reverse];refine zQ 2 ?_;refine qD rfl (by simp) ?_;refine zQ 6 ?_;refine qn ?_ (hR := hH.rows at0);simp only [List.length_map,List.length_cons,List.length_reverse];refine EvO.subZ (z := ((stk.length : Nat) : Int)) rfl (ev rfl) (ev rfl) (by (try simp only [List.length_reverse,List.length_cons,List.length_nil,List.length_append,List.length_map,List.length_set]); rw [wrap_i64 (by omega) (by omega)] <;> omega) (put_T rfl _) ?_;refine qi hH at0 fun p35 hp35 => ?_;refine zQ 7 ?_;refine qn ?_ (hR := hH.rows at0);simp only [List.length_map,List.length_cons,List.length_reverse];refine EvO.subZ (z := ((stk.length : Nat) : Int)) rfl (ev rfl) (ev rfl) (by (try simp only [List.length_reverse,List.length_cons,List.length_nil,List.length_append,List.length_map,List.length_set]); rw [wrap_i64 (by omega) (by omega)] <;> omega) (put_T rfl _) ?_;refine EvO.oslice hH rfl (ev rfl) (by exact at0) rfl rfl (bounds_to (by simp only [List.length_map,List.length_reverse,List.length_cons,List.length_append,List.length_nil,List.length_take,List.length_drop,List.length_set,List.length_replicate]; omega)) ⟨(by omega),(by simp only [List.length_map,List.length_reverse,List.length_cons,List.length_append,List.length_nil,List.length_take,List.length_drop,List.length_set,List.length_replicate]; omega)⟩ (fun _ => (put_T rfl _)) (fun y41 hH => ?_);refine zQ 2 ?_;dsimp only [u2] at hH;rw [stk_pop] at hH;have hst : ∀ w ∈ stk,0 <= w /\ w < (p.code.length : Int) := fun w hw => hsk w (List.mem_cons_of_mem _ hw);refine zQ 5 ?_;refine qi hH at1 fun p44 hp44 => ?_;refine zQ 2 ?_
   cases b with
   | true =>
    refine zQ 2 ?_;simp only [dfs,Int.toNat_natCast,hb] at hd;exact ⟨mm,by omega,⟨_,_,seen,stk,rfl,hH,hd,by omega,hsl,hst,by omega⟩⟩
   | false =>
    have hcnt := count_set hb;have hset : (seen.set k true).map boolC = (seen.map boolC).set k [.bool true] := by rw [List.map_set]; rfl
    simp only [dfs,Int.toNat_natCast,hb,hi] at hd;have hnx := hcl k i hi;have hnl := next_len k i
    have hsk2 : ∀ w ∈ (nextS k i).reverse ++ stk,0 <= w /\ w < (p.code.length : Int) := fun w hw => by
     rcases List.mem_append.1 hw with hw | hw
     ·exact hnx w (List.mem_reverse.1 hw)
     ·exact hst w hw
    have hrev : (((nextS k i).reverse ++ stk).reverse).map intC = stk.reverse.map intC ++ (nextS k i).map intC := by
     rw [List.reverse_append,List.reverse_reverse,List.map_append]
    have hna := (intsV_sl (nextS k i)).arg s0.bs.length S;refine zQ 6 ?_;refine qi hH at1 fun p48 hp48 => ?_;refine EvO.ostore hH rfl (ev rfl) (ev rfl) (by assumption) rfl rfl (by exact at1) (by assumption) (Nat.le_of_ble_eq_true rfl) (by exact .inl hF) (fun st hH => ?_);dsimp only [u2,u1,u3,u4,setMany,u5,u6,D.cells,Nat.reduceAdd,Pg.cs,insC,intC,boolC] at hH;refine zQ 3 ?_;refine EvO.hloadS (m := 2) hH rfl (ev rfl) (by exact at2) (by dsimp only [List.drop_succ_cons,List.drop_zero,List.take_succ_cons,List.take_zero,Pg.cs,insC,intC,boolC] <;> rfl) rfl rfl (put_T rfl _) ?_;refine qm ?_;refine qv (nextR_ev (hp.to hSb hH) hi) ?_;refine EvO.happend (s := 1) hH rfl (ev rfl) (ev rfl) (by exact at0) (by exact Arg.rows (by assumption) hH) rfl rfl rfl rfl rfl rfl rfl ⟨(Nat.le_of_ble_eq_true rfl),(Nat.le_of_ble_eq_true rfl)⟩ (fun _ => (put_T rfl _)) (by simp only [List.length_map,List.length_reverse] <;> omega) (by exact .inl hF) (fun x53 st hH => ?_);dsimp only [u2,u1,u3,u4,setMany,u5,u6,D.cells,Nat.reduceAdd,Pg.cs,insC,intC,boolC] at hH;refine zQ 2 ?_;exact ⟨mm,by omega,⟨y,_,seen.set k true,(nextS k i).reverse ++ stk,rfl,(by rw [hrev,hset]; exact hH),hd,by simp only [List.length_append,List.length_reverse]; omega,by simp only [List.length_set]; exact hsl,hsk2,by omega⟩⟩
theorem checkRightR_ev {s0 : St} {p : Pg} (hp : p.okR s0) : Ev pv 16 [p.d] s0 (.bool (dec (RightQ p))) s0 := by
 refine Ev.mk1 rfl fi16 rfl rfl rfl ?_;refine zE ?_;obtain ⟨hSb,hF,hH⟩ := ri s0;generalize enterSt .ro s0 = S at *;have hc := Arg.of hp.c hSb;have hs := Arg.of hp.s hSb;have hcd := hp.c;have hlen := hp.cl;have hsl0 := hp.sl;unfold Pg.d;refine zQ 2 ?_;refine qb hH fun k1 st hk1 hH => ?_;dsimp only [u2,u1,u3,u4,setMany,u5,u6,D.cells,Nat.reduceAdd,Pg.cs,insC,intC,boolC] at hH;refine zQ 4 ?_;refine EvC.cutL 17 (.bool (decide ((p.code.length : Int) > 400) || decide ((p.starts.length : Int) > 8))) [8,9,10,11,12,13,14,15,16] ?_ (fun ff tmp => ?_)
 ·refine zQ 2 ?_;refine qn ?_;simp only [List.length_map];refine zQ 2 ?_;refine EvO.two 12 rfl (fun hg4 => ?_) (fun hg4 => ?_)
  ·refine zQ 5 ?_;refine EvO.nil (leafL ?_);refine zG ?_
   all_goals (simp [hg4]; done)
  ·refine zQ 2 ?_;refine qn ?_ (hg := wi hg4);simp only [List.length_map];refine zQ 2 ?_;refine EvO.nil (leafL ?_);refine zG ?_
   all_goals (simp [hg4]; done)
 dsimp only [setW,List.foldl,nth,u2,u1];generalize ff 8 = e8;generalize ff 9 = e9;generalize ff 10 = e10;generalize ff 11 = e11;generalize ff 12 = e12;generalize ff 13 = e13;generalize ff 14 = e14;generalize ff 15 = e15;generalize ff 16 = e16;refine qc (fun h0 => ?_) (fun h0 => ?_) <;> try simp only [cs] at h0
 ·rw [dec_no (fun h => by have := h.cl; have := h.sl; simp at h0; omega)];refine zQ 4 ?_;refine EvC.ret ⟨rx,_,rfl,rl hSb hH (rfl)⟩
 ·have h0 : p.code.length <= 400 /\ p.starts.length <= 8 := by simp at h0; omega
  refine zQ 6 ?_;refine qn ?_;simp only [List.length_map];refine zQ 3 ?_;refine EvC.loop (fun mm fr st => ∃ (i : Nat),fr.clean = ⟨49, [ixF_Jq fr 0, .ptr k1 0 0, .bool false,ixF_Jq fr 3,ixF_Jq fr 4,ixF_Jq fr 5,ixF_Jq fr 6,ixF_Jq fr 7,ixF_Jq fr 8,ixF_Jq fr 9,ixF_Jq fr 10,ixF_Jq fr 11,ixF_Jq fr 12,ixF_Jq fr 13,ixF_Jq fr 14,ixF_Jq fr 15,ixF_Jq fr 16,ixF_Jq fr 17,ixF_Jq fr 18,ixF_Jq fr 19, .int .i64 (p.code.length : Nat), .int .i64 (i : Nat),ixF_Jq fr 22,ixF_Jq fr 23,ixF_Jq fr 24,ixF_Jq fr 25,ixF_Jq fr 26,ixF_Jq fr 27,ixF_Jq fr 28,ixF_Jq fr 29,ixF_Jq fr 30,ixF_Jq fr 31,ixF_Jq fr 32,ixF_Jq fr 33,ixF_Jq fr 34,ixF_Jq fr 35,ixF_Jq fr 36,ixF_Jq fr 37,ixF_Jq fr 38,ixF_Jq fr 39,ixF_Jq fr 40,ixF_Jq fr 41,ixF_Jq fr 42,ixF_Jq fr 43,ixF_Jq fr 44,ixF_Jq fr 45,ixF_Jq fr 46,ixF_Jq fr 47,ixF_Jq fr 48], []⟩ /\ Has s0.bs.length S st [.box k1 (.mem 0 false [p.cd,p.sd])] /\ (i + mm = p.code.length) /\ (∀ pc q,pc < i -> p.code[pc]? = some q -> shapedS p.code.length p.starts.length pc q = true)) (p.code.length) ?_ ?_
  ·exact ⟨0,rfl,hH,by omega,by intro pc q h; omega⟩
  rintro mm fr st ⟨i,hfr,hH,hi,hsh⟩;rw [hfr];clear hfr;generalize ixF_Jq fr = ee;clear fr;refine zQ 5 ?_;refine zP (fun h1 => ?_) fun h1 => ?_
  ·refine zQ 1 ?_
   obtain ⟨q,hq⟩ : ∃ q,p.code[i]? = some q := ⟨p.code[i]'(by omega),List.getElem?_eq_getElem _⟩
   refine zQ 9 ?_;refine EvO.hloadS (m := 2) hH rfl (ev rfl) (by exact at0) (by dsimp only [List.drop_succ_cons,List.drop_zero,List.take_succ_cons,List.take_zero,Pg.cs,insC,intC,boolC] <;> rfl) rfl rfl (by dsimp only [Fr.put,u1,u2] <;> rfl) ?_;refine qm ?_;refine qv (shapedR_ev (p := p) (hp.to hSb hH) hq) ?_;refine zQ 2 ?_;refine EvC.cond (by rfl) (fun h2 => ?_) (fun h2 => ?_) <;> try simp only [Bool.not_eq_true',Bool.not_eq_false'] at h2
   ·rw [dec_no (fun h => by have := h.sh i q hq; rw [this] at h2; cases h2)];refine zQ 4 ?_;refine EvC.ret ⟨rx,_,rfl,rl hSb hH (rfl)⟩
   ·refine zQ 5 ?_;refine ⟨mm - 1,by omega,⟨i + 1,rfl,hH,by omega,?_⟩⟩;intro pc q' hpc hq'
    by_cases he : pc = i
    ·subst he; rw [hq] at hq'; cases hq'; simpa using h2
    ·exact hsh pc q' (by omega) hq'
  ·refine zQ 1 ?_;have hsh : ∀ pc q,p.code[pc]? = some q -> shapedS p.code.length p.starts.length pc q = true := fun pc q hq => hsh pc q (by have := lt_get hq; omega) hq;have hcl := closed_of hsh;refine zQ 5 ?_;refine qn ?_;simp only [List.length_map];refine zQ 3 ?_;refine EvC.loop (fun mm fr st => ∃ (r : Nat),fr.clean = ⟨49, [ixF_Jq fr 0, .ptr k1 0 0, .bool false,ixF_Jq fr 3,ixF_Jq fr 4,ixF_Jq fr 5,ixF_Jq fr 6,ixF_Jq fr 7,ixF_Jq fr 8,ixF_Jq fr 9,ixF_Jq fr 10,ixF_Jq fr 11,ixF_Jq fr 12,ixF_Jq fr 13,ixF_Jq fr 14,ixF_Jq fr 15,ixF_Jq fr 16,ixF_Jq fr 17,ixF_Jq fr 18,ixF_Jq fr 19,ixF_Jq fr 20,ixF_Jq fr 21,ixF_Jq fr 22,ixF_Jq fr 23,ixF_Jq fr 24,ixF_Jq fr 25,ixF_Jq fr 26,ixF_Jq fr 27,ixF_Jq fr 28,ixF_Jq fr 29,p.sd, .int .i64 (p.starts.length : Nat), .int .i64 (r : Nat),ixF_Jq fr 33,ixF_Jq fr 34,ixF_Jq fr 35,ixF_Jq fr 36,ixF_Jq fr 37,ixF_Jq fr 38,ixF_Jq fr 39,ixF_Jq fr 40,ixF_Jq fr 41,ixF_Jq fr 42,ixF_Jq fr 43,ixF_Jq fr 44,ixF_Jq fr 45,ixF_Jq fr 46,ixF_Jq fr 47,ixF_Jq fr 48], []⟩ /\ Has s0.bs.length S st [.box k1 (.mem 0 false [p.cd,p.sd])] /\ (r + mm = p.starts.length) /\ (∀ r' s,r' < r -> p.starts[r']? = some s -> (0 <= s /\ s < (p.code.length : Int)) /\ ownMatch p r' s p.code.length)) (p.starts.length) ?_ ?_
   ·exact ⟨0,rfl,hH,by omega,by intro pc q h; omega⟩
   rintro mm fr st ⟨r,hfr,hH,hi,hok⟩;rw [hfr];clear hfr;generalize ixF_Jq fr = ee;clear fr;refine zQ 5 ?_;refine zP (fun h3 => ?_) fun h3 => ?_
   ·refine zQ 1 ?_
    obtain ⟨s,hs1⟩ : ∃ s,p.starts[r]? = some s := ⟨p.starts[r]'(by omega),List.getElem?_eq_getElem _⟩
    have hr0 := int_get hs1;refine zQ 5 ?_;refine qr fun p35 hp35 => ?_;refine zQ 10 ?_;refine qn ?_;simp only [List.length_map];refine qv (within_ev _ _) ?_;refine zQ 2 ?_;refine EvC.cond (by rfl) (fun h4 => ?_) (fun h4 => ?_) <;> try simp only [Bool.not_eq_true',Bool.not_eq_false'] at h4
    ·rw [dec_no (fun h => by have := inS_iff.2 (h.st s (List.mem_of_getElem? hs1)); rw [this] at h4; cases h4)];refine zQ 4 ?_;refine EvC.ret ⟨rx,_,rfl,rl hSb hH (rfl)⟩
    ·have hsin := inS_iff.1 (show inS s p.code.length = true by simpa using h4);refine zQ 1 ?_;have hrl := reachS_len p.code s;have hra := (boolsV_sl (reachS p.code s)).arg s0.bs.length S;refine zQ 5 ?_;refine qv (fromR_ev ((Arg.of hcd hSb).rows hH) hlen hcl hsin) ?_;refine qn ?_;simp only [List.length_map];refine zQ 3 ?_;refine EvC.loop (fun mm fr st => ∃ (i : Nat),fr.clean = ⟨49, [ixF_Jq fr 0, .ptr k1 0 0, .bool false,ixF_Jq fr 3, .int .i64 (r : Nat),ixF_Jq fr 5,ixF_Jq fr 6,ixF_Jq fr 7,ixF_Jq fr 8,ixF_Jq fr 9,ixF_Jq fr 10,ixF_Jq fr 11,ixF_Jq fr 12,ixF_Jq fr 13,ixF_Jq fr 14,ixF_Jq fr 15,ixF_Jq fr 16,ixF_Jq fr 17,ixF_Jq fr 18,ixF_Jq fr 19,ixF_Jq fr 20,ixF_Jq fr 21,ixF_Jq fr 22,ixF_Jq fr 23,ixF_Jq fr 24,ixF_Jq fr 25,ixF_Jq fr 26,ixF_Jq fr 27,ixF_Jq fr 28,ixF_Jq fr 29,p.sd, .int .i64 (p.starts.length : Nat), .int .i64 (r : Nat),ixF_Jq fr 33,ixF_Jq fr 34,ixF_Jq fr 35,ixF_Jq fr 36,ixF_Jq fr 37,ixF_Jq fr 38,ixF_Jq fr 39,ixF_Jq fr 40,ixF_Jq fr 41,ixF_Jq fr 42,ixF_Jq fr 43,ixF_Jq fr 44,ixF_Jq fr 45,boolsV (reachS p.code s), .int .i64 ((reachS p.code s).length : Nat), .int .i64 (i : Nat)], []⟩ /\ Has s0.bs.length S st [.box k1 (.mem 0 false [p.cd,p.sd])] /\ (i + mm = p.code.length) /\ (ownMatch p r s i)) (p.code.length) ?_ ?_
     ·exact ⟨0,rfl,hH,by omega,by intro pc q h; omega⟩
     rintro mm fr st ⟨i,hfr,hH,hj,hom⟩;rw [hfr];clear hfr;generalize ixF_Jq fr = ee;clear fr;refine zQ 5 ?_;refine zP (fun h5 => ?_) fun h5 => ?_
     ·refine zQ 1 ?_
      obtain ⟨b,hb⟩ : ∃ b,(reachS p.code s)[i]? = some b := ⟨(reachS p.code s)[i]'(by omega),List.getElem?_eq_getElem _⟩
      obtain ⟨q,hq⟩ : ∃ q,p.code[i]? = some q := ⟨p.code[i]'(by omega),List.getElem?_eq_getElem _⟩
      have hr1 := bool_get hb;have hr2 := ins_get hq;refine zQ 5 ?_;refine qr fun p51 hp51 => ?_;refine zQ 5 ?_;refine EvC.cutT 72 (.bool ((b && (q.op == 7)) && (q.x != (r : Int)))) [] ?_ (fun ff tmp htmp => ?_)
      ·refine zQ 2 ?_;refine EvO.two 54 rfl (fun hg1 => ?_) (fun hg1 => ?_)
       ·refine zQ 3 ?_;refine qr (fun p58 hp58 => ?_) (hg := wi hg1);refine qf (fo := 0) (fun p59 hp59 => ?_) (hg := wi hg1);refine zQ 4 ?_;refine EvO.two 63 rfl (fun hg10 => ?_) (fun hg10 => ?_)
        ·refine zQ 3 ?_;refine qr (fun p67 hp67 => ?_) (hg := wi hg10);refine qf (fo := 1) (fun p68 hp68 => ?_) (hg := wi hg10);refine zQ 4 ?_;refine EvO.nil (leafT ?_ ?_)
         ·dsimp only [setW,List.foldl,nth,u2,u1]
          all_goals (first | rfl | simp)
         ·refine zF ?_
          all_goals (simp [hg1,hg10]; done)
        ·refine zQ 9 ?_;refine EvO.nil (leafT ?_ ?_)
         ·dsimp only [setW,List.foldl,nth,u2,u1]
          all_goals (first | rfl | simp)
         ·refine zF ?_
          all_goals (simp [hg1,hg10]; done)
       ·refine zQ 18 ?_;refine EvO.nil (leafT ?_ ?_)
        ·dsimp only [setW,List.foldl,nth,u2,u1]
         all_goals (first | rfl | simp)
        ·refine zF ?_
         all_goals (simp [hg1]; done)
      refine zG ?_;refine qc (fun h6 => ?_) (fun h6 => ?_) <;> try simp only [cs] at h6
      ·rw [dec_no (fun h => by
        have h7 := h.fo r s hs1 i q (by omega);simp only [Bool.and_eq_true,beq_iff_eq,bne_iff_ne,ne_eq] at h6;obtain ⟨⟨rfl,h8⟩,h9⟩ := h6
        exact h9 (h7 hb hq h8))]
       refine zQ 4 ?_;refine EvC.ret ⟨rx,_,rfl,rl hSb hH (rfl)⟩
      ·refine zQ 5 ?_;refine ⟨mm - 1,by omega,⟨i + 1,rfl,hH,by omega,?_⟩⟩;intro pc q' hpc hre hq' hop
       by_cases he : pc = i
       ·subst he;rw [hq] at hq'; cases hq';rw [hb] at hre; cases hre;simp [hop] at h6; exact h6
       ·exact hom pc q' (by omega) hre hq' hop
     ·refine zQ 5 ?_;refine ⟨p.starts.length - (r + 1),by omega,⟨r + 1,rfl,hH,by omega,?_⟩⟩;intro r' s' hr' hs'
      by_cases he : r' = r
      ·subst he;rw [hs1] at hs'; cases hs';exact ⟨hsin,fun pc q hpc => hom pc q (by omega)⟩
      ·exact hok r' s' (by omega) hs'
   ·refine zQ 1 ?_
    rw [dec_yes ⟨h0.1,h0.2,hsh,fun v hv => by
     obtain ⟨r',hr'⟩ := List.getElem?_of_mem hv
     exact (hok r' v (by have := lt_get hr'; omega) hr').1,fun r' s' hs' => (hok r' s' (by have := lt_get hs'; omega) hs').2⟩]
    refine zQ 4 ?_;refine EvC.ret ⟨rx,_,rfl,rl hSb hH (rfl)⟩
theorem refRightQR_ev {s0 : St} {p : Pg} (hp : p.okR s0) : Ev pv 17 [p.d] s0 (.bool (dec (RightQ p))) s0 := by
 refine Ev.mk1 rfl fi17 rfl rfl rfl ?_;refine zE ?_;obtain ⟨hSb,hF,hH⟩ := ri s0;generalize enterSt .ro s0 = S at *;have hc := Arg.of hp.c hSb;have hs := Arg.of hp.s hSb;have hcd := hp.c;have hlen := hp.cl;have hsl0 := hp.sl;unfold Pg.d;refine zQ 2 ?_;refine qb hH fun k1 st hk1 hH => ?_;dsimp only [u2,u1,u3,u4,setMany,u5,u6,D.cells,Nat.reduceAdd,Pg.cs,insC,intC,boolC] at hH;refine zQ 4 ?_;refine EvC.cutT 17 (.bool (decide ((p.code.length : Int) > 400) || decide ((p.starts.length : Int) > 8))) [] ?_ (fun ff tmp htmp => ?_)
 ·refine zQ 2 ?_;refine qn ?_;simp only [List.length_map];refine zQ 2 ?_;refine EvO.two 12 rfl (fun hg4 => ?_) (fun hg4 => ?_)
  ·refine zQ 5 ?_;refine EvO.nil (leafT ?_ ?_)
   ·dsimp only [setW,List.foldl,nth,u2,u1]
    all_goals (first | rfl | simp)
   ·refine zF ?_
    all_goals (simp [hg4]; done)
  ·refine zQ 2 ?_;refine qn ?_ (hg := wi hg4);simp only [List.length_map];refine zQ 2 ?_;refine EvO.nil (leafT ?_ ?_)
   ·dsimp only [setW,List.foldl,nth,u2,u1]
    all_goals (first | rfl | simp)
   ·refine zF ?_
    all_goals (simp [hg4]; done)
 dsimp only [setW,List.foldl,nth,u2,u1];refine qc (fun h0 => ?_) (fun h0 => ?_) <;> try simp only [cs] at h0
 ·rw [dec_no (fun h => by have := h.cl; have := h.sl; simp at h0; omega)];refine zQ 4 ?_;refine EvC.ret ⟨rx,_,rfl,rl hSb hH (rfl)⟩
 ·have h0 : p.code.length <= 400 /\ p.starts.length <= 8 := by simp at h0; omega
  refine zQ 7 ?_;refine EvC.loop (fun mm fr st => ∃ (i : Nat),fr.clean = ⟨8, [ixF_Jq fr 0, .ptr k1 0 0, .bool false, .int .i64 (i : Nat),ixF_Jq fr 4,ixF_Jq fr 5,ixF_Jq fr 6,ixF_Jq fr 7], []⟩ /\ Has s0.bs.length S st [.box k1 (.mem 0 false [p.cd,p.sd])] /\ (i + mm = p.code.length) /\ (∀ pc q,pc < i -> p.code[pc]? = some q -> shapedS p.code.length p.starts.length pc q = true)) (p.code.length) ?_ ?_
  ·exact ⟨0,rfl,hH,by omega,by intro pc q h; omega⟩
  rintro mm fr st ⟨i,hfr,hH,hi,hsh⟩;rw [hfr];clear hfr;generalize ixF_Jq fr = ee;clear fr;refine zQ 6 ?_;refine qn ?_;simp only [List.length_map];refine zQ 2 ?_;refine zP (fun h1 => ?_) fun h1 => ?_
  ·refine zQ 1 ?_
   obtain ⟨q,hq⟩ : ∃ q,p.code[i]? = some q := ⟨p.code[i]'(by omega),List.getElem?_eq_getElem _⟩
   refine zQ 4 ?_;refine EvO.hloadS (m := 2) hH rfl (ev rfl) (by exact at0) (by dsimp only [List.drop_succ_cons,List.drop_zero,List.take_succ_cons,List.take_zero,Pg.cs,insC,intC,boolC] <;> rfl) rfl rfl (put_T rfl _) ?_;refine qm ?_;refine qv (insR_ev (p := p) (hp.to hSb hH) hq) ?_;refine zQ 2 ?_;refine EvC.cond (by rfl) (fun h2 => ?_) (fun h2 => ?_) <;> try simp only [Bool.not_eq_true',Bool.not_eq_false'] at h2
   ·rw [dec_no (fun h => by have := h.sh i q hq; rw [this] at h2; cases h2)];refine zQ 4 ?_;refine EvC.ret ⟨rx,_,rfl,rl hSb hH (rfl)⟩
   ·refine zQ 6 ?_;refine ⟨mm - 1,by omega,⟨i + 1,rfl,hH,by omega,?_⟩⟩;intro pc q' hpc hq'
    by_cases he : pc = i
    ·subst he; rw [hq] at hq'; cases hq'; simpa using h2
    ·exact hsh pc q' (by omega) hq'
  ·refine zQ 1 ?_;have hsh : ∀ pc q,p.code[pc]? = some q -> shapedS p.code.length p.starts.length pc q = true := fun pc q hq => hsh pc q (by have := lt_get hq; omega) hq;have hcl := closed_of hsh;refine zQ 6 ?_;refine EvC.loop (fun mm fr st => ∃ (r : Nat),fr.clean = ⟨8, [ixF_Jq fr 0, .ptr k1 0 0, .bool false,ixF_Jq fr 3, .int .i64 (r : Nat),ixF_Jq fr 5,ixF_Jq fr 6,ixF_Jq fr 7], []⟩ /\ Has s0.bs.length S st [.box k1 (.mem 0 false [p.cd,p.sd])] /\ (r + mm = p.starts.length) /\ (∀ r' s,r' < r -> p.starts[r']? = some s -> 0 <= s /\ s < (p.code.length : Int))) (p.starts.length) ?_ ?_
   ·exact ⟨0,rfl,hH,by omega,by intro pc q h; omega⟩
   rintro mm fr st ⟨r,hfr,hH,hi,hok⟩;rw [hfr];clear hfr;generalize ixF_Jq fr = ee;clear fr;refine zQ 6 ?_;refine qn ?_;simp only [List.length_map];refine zQ 2 ?_;refine zP (fun h3 => ?_) fun h3 => ?_
   ·refine zQ 1 ?_
    obtain ⟨s,hs1⟩ : ∃ s,p.starts[r]? = some s := ⟨p.starts[r]'(by omega),List.getElem?_eq_getElem _⟩
    have hr0 := int_get hs1;refine zQ 3 ?_;refine EvC.cutT 52 (.bool (decide (s < 0) || decide (s >= p.code.length))) [] ?_ (fun ff tmp htmp => ?_)
    ·refine zQ 3 ?_;refine qr fun p39 hp39 => ?_;refine zQ 3 ?_;refine EvO.two 42 rfl (fun hg6 => ?_) (fun hg6 => ?_)
     ·refine zQ 10 ?_;refine EvO.nil (leafT ?_ ?_)
      ·dsimp only [setW,List.foldl,nth,u2,u1]
       all_goals (first | rfl | simp)
      ·refine zF ?_
       all_goals (simp [hg6]; done)
     ·refine zQ 3 ?_;refine qr (fun p46 hp46 => ?_) (hg := wi hg6);refine zQ 3 ?_;refine qn ?_ (hg := wi hg6);simp only [List.length_map];refine zQ 2 ?_;refine EvO.nil (leafT ?_ ?_)
      ·dsimp only [setW,List.foldl,nth,u2,u1]
       all_goals (first | rfl | simp)
      ·refine zF ?_
       all_goals (simp [hg6]; done)
    refine zG ?_;refine qc (fun h4 => ?_) (fun h4 => ?_) <;> try simp only [cs] at h4
    ·rw [dec_no (fun h => by have := h.st s (List.mem_of_getElem? hs1); simp at h4; omega)];refine zQ 4 ?_;refine EvC.ret ⟨rx,_,rfl,rl hSb hH (rfl)⟩
    ·have hsin : 0 <= s /\ s < (p.code.length : Int) := by simp at h4; omega
     refine zQ 6 ?_;refine ⟨mm - 1,by omega,⟨r + 1,rfl,hH,by omega,?_⟩⟩;intro r' s' hr' hs'
     by_cases he : r' = r
     ·subst he;rw [hs1] at hs'; cases hs';exact hsin
     ·exact hok r' s' (by omega) hs'
   ·refine zQ 1 ?_
    have hok : ∀ v ∈ p.starts,0 <= v /\ v < (p.code.length : Int) := fun v hv => by
     obtain ⟨r',hr'⟩ := List.getElem?_of_mem hv;exact hok r' v (by have := lt_get hr'; omega) hr'
    refine zQ 6 ?_;refine EvC.loop (fun mm fr st => ∃ (r : Nat),fr.clean = ⟨8, [ixF_Jq fr 0, .ptr k1 0 0, .bool false,ixF_Jq fr 3,ixF_Jq fr 4, .int .i64 (r : Nat),ixF_Jq fr 6,ixF_Jq fr 7], []⟩ /\ Has s0.bs.length S st [.box k1 (.mem 0 false [p.cd,p.sd])] /\ (r + mm = p.starts.length) /\ (∀ r' s,r' < r -> p.starts[r']? = some s -> ownMatch p r' s p.code.length)) (p.starts.length) ?_ ?_
    ·exact ⟨0,rfl,hH,by omega,by intro pc q h; omega⟩
    rintro mm fr st ⟨r,hfr,hH,hi,hfo⟩;rw [hfr];clear hfr;generalize ixF_Jq fr = ee;clear fr;refine zQ 6 ?_;refine qn ?_;simp only [List.length_map];refine zQ 2 ?_;refine zP (fun h5 => ?_) fun h5 => ?_
    ·refine zQ 1 ?_
     obtain ⟨s,hs1⟩ : ∃ s,p.starts[r]? = some s := ⟨p.starts[r]'(by omega),List.getElem?_eq_getElem _⟩
     have hR : reachR p (r : Nat) = reachS p.code s := by
      unfold reachR;rw [if_pos (inS_iff.2 ⟨by omega,by omega⟩),Int.toNat_natCast,List.getD_eq_getElem?_getD,hs1]; rfl
     have hrl := reachS_len p.code s;have hra := (boolsV_sl (reachS p.code s)).arg s0.bs.length S;refine zQ 4 ?_;refine EvO.hloadS (m := 2) hH rfl (ev rfl) (by exact at0) (by dsimp only [List.drop_succ_cons,List.drop_zero,List.take_succ_cons,List.take_zero,Pg.cs,insC,intC,boolC] <;> rfl) rfl rfl (put_T rfl _) ?_;refine qm ?_;refine qv ((hR ▸ refReachR_ev (p := p) (rule := (r : Nat)) (hp.to hSb hH) hcl hok)) ?_;refine zQ 7 ?_;refine EvC.loop (fun mm fr st => ∃ (i : Nat),fr.clean = ⟨8, [ixF_Jq fr 0, .ptr k1 0 0, .bool false,ixF_Jq fr 3,ixF_Jq fr 4, .int .i64 (r : Nat),boolsV (reachS p.code s), .int .i64 (i : Nat)], []⟩ /\ Has s0.bs.length S st [.box k1 (.mem 0 false [p.cd,p.sd])] /\ (i + mm = p.code.length) /\ (ownMatch p r s i)) (p.code.length) ?_ ?_
     ·exact ⟨0,rfl,hH,by omega,by intro pc q h; omega⟩
     rintro mm fr st ⟨i,hfr,hH,hj,hom⟩;rw [hfr];clear hfr;generalize ixF_Jq fr = ee;clear fr;refine zQ 6 ?_;refine qn ?_;simp only [List.length_map];refine zQ 2 ?_;refine zP (fun h7 => ?_) fun h7 => ?_
     ·refine zQ 1 ?_
      obtain ⟨b,hb⟩ : ∃ b,(reachS p.code s)[i]? = some b := ⟨(reachS p.code s)[i]'(by omega),List.getElem?_eq_getElem _⟩
      obtain ⟨q,hq⟩ : ∃ q,p.code[i]? = some q := ⟨p.code[i]'(by omega),List.getElem?_eq_getElem _⟩
      have hr1 := bool_get hb;have hr2 := ins_get hq;refine zQ 3 ?_;refine EvC.cutT 92 (.bool ((b && (q.op == 7)) && (q.x != (r : Int)))) [] ?_ (fun ff tmp htmp => ?_)
      ·refine zQ 2 ?_;refine qr fun p72 hp72 => ?_;refine zQ 2 ?_;refine EvO.two 74 rfl (fun hg4 => ?_) (fun hg4 => ?_)
       ·refine zQ 3 ?_;refine qr (fun p78 hp78 => ?_) (hg := wi hg4);refine qf (fo := 0) (fun p79 hp79 => ?_) (hg := wi hg4);refine zQ 4 ?_;refine EvO.two 83 rfl (fun hg13 => ?_) (fun hg13 => ?_)
        ·refine zQ 3 ?_;refine qr (fun p87 hp87 => ?_) (hg := wi hg13);refine qf (fo := 1) (fun p88 hp88 => ?_) (hg := wi hg13);refine zQ 4 ?_;refine EvO.nil (leafT ?_ ?_)
         ·dsimp only [setW,List.foldl,nth,u2,u1]
          all_goals (first | rfl | simp)
         ·refine zF ?_
          all_goals (simp [hg4,hg13]; done)
        ·refine zQ 9 ?_;refine EvO.nil (leafT ?_ ?_)
         ·dsimp only [setW,List.foldl,nth,u2,u1]
          all_goals (first | rfl | simp)
         ·refine zF ?_
          all_goals (simp [hg4,hg13]; done)
       ·refine zQ 18 ?_;refine EvO.nil (leafT ?_ ?_)
        ·dsimp only [setW,List.foldl,nth,u2,u1]
         all_goals (first | rfl | simp)
        ·refine zF ?_
         all_goals (simp [hg4]; done)
      refine zG ?_;refine qc (fun h6 => ?_) (fun h6 => ?_) <;> try simp only [cs] at h6
      ·rw [dec_no (fun h => by
        have h7 := h.fo r s hs1 i q (by omega);simp only [Bool.and_eq_true,beq_iff_eq,bne_iff_ne,ne_eq] at h6;obtain ⟨⟨rfl,h8⟩,h9⟩ := h6
        exact h9 (h7 hb hq h8))]
       refine zQ 4 ?_;refine EvC.ret ⟨rx,_,rfl,rl hSb hH (rfl)⟩
      ·refine zQ 6 ?_;refine ⟨mm - 1,by omega,⟨i + 1,rfl,hH,by omega,?_⟩⟩;intro pc q' hpc hre hq' hop
       by_cases he : pc = i
       ·subst he;rw [hq] at hq'; cases hq';rw [hb] at hre; cases hre;simp [hop] at h6; exact h6
       ·exact hom pc q' (by omega) hre hq' hop
     ·refine zQ 6 ?_;refine ⟨p.starts.length - (r + 1),by omega,⟨r + 1,rfl,hH,by omega,?_⟩⟩;intro r' s' hr' hs'
      by_cases he : r' = r
      ·subst he;rw [hs1] at hs'; cases hs';exact fun pc q hpc => hom pc q (by omega)
      ·exact hfo r' s' (by omega) hs'
    ·refine zQ 1 ?_;rw [dec_yes ⟨h0.1,h0.2,hsh,hok,fun r' s' hs' => hfo r' s' (by have := lt_get hs'; omega) hs'⟩];refine zQ 4 ?_;refine EvC.ret ⟨rx,_,rfl,rl hSb hH (rfl)⟩
end Go.Proofs.Ytnleclohocdkaaa
