/- own -/
import Derived.Test.YtapfahlbkhgdpaaTGKb
import Derived.Test.YtapfahlbkhgdpaaTGCa
import Derived.Test.YtapfahlbkhgdpaaTGQh
import Derived.Test.YtapfahlbkhgdpaaTGHr
import Derived.Test.YtapfahlbkhgdpaaTGTe
import Derived.Test.YtapfahlbkhgdpaaTGM3
set_option maxRecDepth 100000
set_option linter.unusedSimpArgs false
set_option linter.unusedVariables false
set_option maxHeartbeats 4000000
namespace Go.Proofs.Ytapfahlbkhgdpaa
open Go.V Go
def shI (n : Nat) (i : PIns) : PIns := if i.op = 2 then ⟨2,i.x + n,i.y + n,i.rd,i.rs⟩ else if i.op = 3 then ⟨3,i.x + n,i.y,i.rd,i.rs⟩ else i
theorem shI_mk (n : Nat) {op : Int} (x y : Int) (rs : List Rg) (h2 : op ≠ 2) (h3 : op ≠ 3) : shI n (mkI op x y rs) = mkI op x y rs := by
  unfold shI mkI
  rw [if_neg h2,if_neg h3]
theorem shI_sp (n s o : Nat) (lz : Bool) : shI n (spI s o lz) = spI (s + n) (o + n) lz := by
  cases lz
  · show (⟨2,((s + 1 : Nat) : Int) + n,(o : Int) + n,_,_⟩ : PIns) = mkI 2 ((s + n + 1 : Nat) : Int) ((o + n : Nat) : Int) []
    unfold mkI
    congr 1; omega
  · show (⟨2,(o : Int) + n,((s + 1 : Nat) : Int) + n,_,_⟩ : PIns) = mkI 2 ((o + n : Nat) : Int) ((s + n + 1 : Nat) : Int) []
    unfold mkI
    congr 1; omega
theorem shI_jp (n e : Nat) : shI n (jpI e) = jpI (e + n) := by
  show (⟨3,(e : Int) + n,0,_,_⟩ : PIns) = mkI 3 ((e + n : Nat) : Int) 0 []
  unfold mkI
  congr 1
theorem repC_sh {c : Nat -> List PIns} {z n : Nat} (hc : ∀ b,c (b + n) = (c b).map (shI n)) : ∀ k b,repC c z k (b + n) = (repC c z k b).map (shI n)
  | 0,b => rfl
  | k + 1,b => by
    have h := repC_sh hc (z := z) k (b + z)
    rw [Nat.add_right_comm] at h
    rw [repC,repC,List.map_append,hc,h]
theorem optC_sh {sp sp' : Nat -> PIns} {c : Nat -> List PIns} {z n : Nat} (hs : ∀ s,sp' (s + n) = shI n (sp s)) (hc : ∀ b,c (b + n) = (c b).map (shI n)) : ∀ k b,optC sp' c z k (b + n) = (optC sp c z k b).map (shI n)
  | 0,b => rfl
  | k + 1,b => by
    have h := optC_sh hs hc (z := z) k (b + 1 + z)
    have e1 : b + 1 + z + n = b + n + 1 + z := by omega
    have e2 : b + n + 1 = b + 1 + n := by omega
    rw [e1] at h
    rw [optC,optC,List.map_cons,List.map_append,hs,h,e2,hc]
theorem rptC_sh {nd : Nod} {c : Nat -> List PIns} {z n b : Nat} (hc : ∀ b,c (b + n) = (c b).map (shI n)) : rptC nd c z (b + n) = (rptC nd c z b).map (shI n) := by
  unfold rptC
  split
  · rw [List.map_append,repC_sh hc,List.map_cons,List.map_append,shI_sp,List.map_cons,List.map_nil,shI_jp]
    have e1 : b + n + nd.mn.toNat * z = b + nd.mn.toNat * z + n := by omega
    have e2 : b + nd.mn.toNat * z + n + 1 = b + nd.mn.toNat * z + 1 + n := by omega
    have e3 : b + nd.mn.toNat * z + n + z + 2 = b + nd.mn.toNat * z + z + 2 + n := by omega
    rw [e1,e2,e3,hc]
  · rw [List.map_append,repC_sh hc]
    have e1 : b + n + nd.mn.toNat * z = b + nd.mn.toNat * z + n := by omega
    rw [e1]
    congr 1
    refine optC_sh (fun s => ?_) hc _ _
    rw [shI_sp]
    congr 1
    omega
mutual
theorem codeT_sh (n : Nat) : ∀ (t : Tr) (b : Nat),codeT t (b + n) = (codeT t b).map (shI n)
  | .mk nd ks,b => by
    have hc := fun b => catT_sh n ks b
    have ha := fun e b => altT_sh n e ks b
    simp only [codeT]
    split
    · rw [List.map_cons,List.map_nil,shI_mk _ _ _ _ (by decide) (by decide)]
    split
    · rw [List.map_cons,List.map_nil,shI_mk _ _ _ _ (by decide) (by decide)]
    split
    · rw [List.map_cons,List.map_nil,shI_mk _ _ _ _ (by decide) (by decide)]
    split
    · exact hc b
    split
    · rw [Nat.add_right_comm]; exact ha _ b
    split
    · exact rptC_sh hc
    split
    · rw [List.map_cons,List.map_append,List.map_cons,List.map_nil,shI_mk _ _ _ _ (by decide) (by decide),shI_mk _ _ _ _ (by decide) (by decide),Nat.add_right_comm,hc]
    · rfl
theorem catT_sh (n : Nat) : ∀ (ts : Trs) (b : Nat),catT ts (b + n) = (catT ts b).map (shI n)
  | .nil,b => by simp only [catT,List.map_nil]
  | .cons t ts,b => by
    have h := catT_sh n ts (b + t.sz)
    rw [Nat.add_right_comm] at h
    simp only [catT,List.map_append]
    rw [codeT_sh n t b,h]
theorem altT_sh (n : Nat) : ∀ (e : Nat) (ts : Trs) (b : Nat),altT (jpI (e + n)) ts (b + n) = (altT (jpI e) ts b).map (shI n)
  | e, .nil,b => by simp only [altT,List.map_nil]
  | e, .cons t ts,b => by
    have h := altT_sh n e ts (b + t.sz + 2)
    have h1 := codeT_sh n t (b + 1)
    have e1 : b + t.sz + 2 + n = b + n + t.sz + 2 := by omega
    have e2 : b + 1 + n = b + n + 1 := by omega
    have e3 : b + 1 + t.sz + 1 + n = b + n + 1 + t.sz + 1 := by omega
    rw [e1] at h
    rw [e2] at h1
    simp only [altT]
    split
    · exact codeT_sh n t b
    · rw [List.map_cons,List.map_append,List.map_cons,shI_sp,shI_jp,h1,h,e3]
end
def InI (lo hi : Nat) (i : PIns) : Prop := i.op ≠ 7 /\ (i.op = 2 -> ((lo : Int) <= i.x /\ i.x <= hi) /\ (lo : Int) <= i.y /\ i.y <= hi) /\ (i.op = 3 -> (lo : Int) <= i.x /\ i.x <= hi)
theorem InI.mono {lo hi lo' hi' : Nat} {i : PIns} (h : InI lo hi i) (h1 : lo' <= lo) (h2 : hi <= hi') : InI lo' hi' i :=
  ⟨h.1,fun e => by have := h.2.1 e; omega,fun e => by have := h.2.2 e; omega⟩
theorem InI.mk {lo hi : Nat} {op : Int} (x y : Int) (rs : List Rg) (h2 : op ≠ 2) (h3 : op ≠ 3) (h7 : op ≠ 7) : InI lo hi (mkI op x y rs) := ⟨h7,fun h => absurd h h2,fun h => absurd h h3⟩
theorem InI.sp {lo hi s o : Nat} {lz : Bool} (h1 : lo <= s + 1 /\ s + 1 <= hi) (h2 : lo <= o /\ o <= hi) : InI lo hi (spI s o lz) := by
  cases lz
  · exact ⟨by show (2 : Int) ≠ 7; decide,fun _ => by show ((lo : Int) <= ((s + 1 : Nat) : Int) /\ ((s + 1 : Nat) : Int) <= hi) /\ (lo : Int) <= (o : Int) /\ (o : Int) <= hi; omega,fun h => absurd h (by show ¬ (2 : Int) = 3; decide)⟩
  · exact ⟨by show (2 : Int) ≠ 7; decide,fun _ => by show ((lo : Int) <= (o : Int) /\ (o : Int) <= hi) /\ (lo : Int) <= ((s + 1 : Nat) : Int) /\ ((s + 1 : Nat) : Int) <= hi; omega,fun h => absurd h (by show ¬ (2 : Int) = 3; decide)⟩
theorem InI.jp {lo hi e : Nat} (h1 : lo <= e /\ e <= hi) : InI lo hi (jpI e) :=
  ⟨by show (3 : Int) ≠ 7; decide,fun h => absurd h (by show ¬ (3 : Int) = 2; decide),fun _ => by show (lo : Int) <= (e : Int) /\ (e : Int) <= hi; omega⟩
theorem repC_in {c : Nat -> List PIns} {z : Nat} (hc : ∀ b, ∀ i ∈ c b,InI b (b + z) i) : ∀ k b, ∀ i ∈ repC c z k b,InI b (b + k * z) i
  | 0,b,i,hi => by cases hi
  | k + 1,b,i,hi => by
    simp only [repC] at hi
    rw [Nat.succ_mul]
    rcases List.mem_append.1 hi with hi | hi
    · exact (hc b i hi).mono (Nat.le_refl _) (by omega)
    · exact (repC_in hc k _ i hi).mono (by omega) (by omega)
theorem optC_in {sp : Nat -> PIns} {c : Nat -> List PIns} {z lo hi : Nat} (hs : ∀ s,lo <= s -> s + 1 <= hi -> InI lo hi (sp s)) (hc : ∀ b, ∀ i ∈ c b,InI b (b + z) i) : ∀ k b,lo <= b -> b + k * (z + 1) <= hi -> ∀ i ∈ optC sp c z k b,InI lo hi i
  | 0,b,_,_,i,hi' => by cases hi'
  | k + 1,b,h1,h2,i,hi' => by
    simp only [optC] at hi'
    rw [Nat.succ_mul] at h2
    rcases List.mem_cons.1 hi' with rfl | hi'
    · exact hs b h1 (by omega)
    · rcases List.mem_append.1 hi' with hi' | hi'
      · exact (hc _ i hi').mono (by omega) (by omega)
      · exact optC_in hs hc k _ (by omega) (by omega) i hi'
mutual
theorem codeT_in : ∀ (t : Tr) (b : Nat),t.ok -> ∀ i ∈ codeT t b,InI b (b + t.sz) i
  | .mk n ks,b,hok,i,hi => by
    simp only [Tr.ok] at hok
    have hc := fun b => catT_in ks b hok.2
    obtain ⟨_,hq⟩ := hok.1
    simp only [codeT] at hi
    simp only [Tr.sz]
    by_cases q2 : n.op = 2
    · rw [if_pos q2] at hi
      simp only [List.mem_cons,List.not_mem_nil,or_false] at hi; subst hi; exact InI.mk _ _ _ (by decide) (by decide) (by decide)
    rw [if_neg q2] at hi
    by_cases q7 : n.op = 7
    · rw [if_pos q7] at hi
      simp only [List.mem_cons,List.not_mem_nil,or_false] at hi; subst hi; exact InI.mk _ _ _ (by decide) (by decide) (by decide)
    rw [if_neg q7] at hi
    by_cases q8 : n.op = 8
    · rw [if_pos q8] at hi
      simp only [List.mem_cons,List.not_mem_nil,or_false] at hi; subst hi; exact InI.mk _ _ _ (by decide) (by decide) (by decide)
    rw [if_neg q8] at hi
    have hz : ∀ s k,nodSz n s k = if n.op = 4 then s + 2 * (k - 1) else if n.op = 6 then s + 2 else if n.op = 5 then (if n.mx = -1 then n.mn.toNat * s + s + 2 else n.mn.toNat * s + (n.mx.toNat - n.mn.toNat) * (s + 1)) else s := by
      intro s k; unfold nodSz; rw [if_neg (by omega)]
    by_cases q3 : n.op = 3
    · rw [if_pos q3] at hi
      rw [hz,if_neg (by omega),if_neg (by omega),if_neg (by omega)]
      exact hc b i hi
    rw [if_neg q3] at hi
    by_cases q4 : n.op = 4
    · rw [if_pos q4] at hi
      have hz4 : nodSz n ks.sz ks.len = ks.sz + 2 * (ks.len - 1) := by rw [hz,if_pos q4]
      rw [hz4] at hi ⊢
      exact altT_in ks b (b + (ks.sz + 2 * (ks.len - 1))) hok.2 (Nat.le_refl _) i hi
    rw [if_neg q4] at hi
    by_cases q5 : n.op = 5
    · rw [if_pos q5] at hi
      rw [hz,if_neg q4,if_neg (by omega),if_pos q5]
      unfold rptC at hi
      by_cases qm : n.mx = -1
      · rw [if_pos qm] at hi ⊢
        rcases List.mem_append.1 hi with hi | hi
        · exact (repC_in hc _ _ i hi).mono (Nat.le_refl _) (by omega)
        · rcases List.mem_cons.1 hi with rfl | hi
          · exact InI.sp (by omega) (by omega)
          · rcases List.mem_append.1 hi with hi | hi
            · exact (hc _ i hi).mono (by omega) (by omega)
            · simp only [List.mem_cons,List.not_mem_nil,or_false] at hi; subst hi; exact InI.jp (by omega)
      · rw [if_neg qm] at hi ⊢
        rcases List.mem_append.1 hi with hi | hi
        · exact (repC_in hc _ _ i hi).mono (Nat.le_refl _) (by omega)
        · exact optC_in (fun s h1 h2 => InI.sp (by omega) (by omega)) hc _ _ (by omega) (by omega) i hi
    rw [if_neg q5] at hi
    by_cases q6 : n.op = 6
    · rw [if_pos q6] at hi
      rw [hz,if_neg q4,if_pos q6]
      rcases List.mem_cons.1 hi with rfl | hi
      · exact InI.mk _ _ _ (by decide) (by decide) (by decide)
      · rcases List.mem_append.1 hi with hi | hi
        · exact (hc _ i hi).mono (by omega) (by omega)
        · simp only [List.mem_cons,List.not_mem_nil,or_false] at hi; subst hi; exact InI.mk _ _ _ (by decide) (by decide) (by decide)
    · rw [if_neg q6] at hi; cases hi
theorem catT_in : ∀ (ts : Trs) (b : Nat),ts.ok -> ∀ i ∈ catT ts b,InI b (b + ts.sz) i
  | .nil,b,_,i,hi => by simp [catT] at hi
  | .cons t ts,b,hok,i,hi => by
    simp only [Trs.ok] at hok
    simp only [catT] at hi
    simp only [Trs.sz]
    rcases List.mem_append.1 hi with hi | hi
    · exact (codeT_in t b hok.1 i hi).mono (Nat.le_refl _) (by omega)
    · exact (catT_in ts _ hok.2 i hi).mono (by omega) (by omega)
theorem altT_in : ∀ (ts : Trs) (b e : Nat),ts.ok -> b + (ts.sz + 2 * (ts.len - 1)) <= e -> ∀ i ∈ altT (jpI e) ts b,InI b e i
  | .nil,b,e,_,_,i,hi => by simp [altT] at hi
  | .cons t ts,b,e,hok,he,i,hi => by
    simp only [Trs.ok] at hok
    simp only [altT] at hi
    simp only [Trs.sz,Trs.len] at he
    by_cases q : ts.len = 0
    · rw [if_pos q] at hi
      exact (codeT_in t b hok.1 i hi).mono (Nat.le_refl _) (by omega)
    · rw [if_neg q] at hi
      rcases List.mem_cons.1 hi with rfl | hi
      · exact InI.sp (by omega) (by omega)
      · rcases List.mem_append.1 hi with hi | hi
        · exact (codeT_in t _ hok.1 i hi).mono (by omega) (by omega)
        · rcases List.mem_cons.1 hi with rfl | hi
          · exact InI.jp (by omega)
          · exact (altT_in ts _ e hok.2 (by omega) i hi).mono (by omega) (by omega)
end
theorem compS_nil' (r : Nat) (c : List PIns) (s : List Int) : compS [] r c s = ⟨c,s,0,0⟩ := by simp only [compS]
theorem compile_one (a : List Nod) : compileS [a] = if rightN a = false then ⟨[], [],1,0⟩ else if 400 < min (treeN a).sz 401 + 3 then ⟨[], [],12,0⟩ else ⟨ruleC (treeN a) 0 0, [0],0,0⟩ := by
  unfold compileS
  rw [if_neg (by simp),compS]
  simp only [compS_nil',List.length_nil,List.nil_append,Nat.zero_add]
  rfl
theorem dec_true {p : Prop} (h : dec p = true) : p := by
 refine Classical.byContradiction fun g => ?_;rw [dec_no g] at h; cases h
def isSeen (seen : List Bool) (v : Int) : Prop := 0 <= v /\ seen[v.toNat]? = some true
structure DfsInv (code : List PIns) (start : Int) (seen : List Bool) (stk : List Int) : Prop where
 a : ∀ u i,seen[u]? = some true -> code[u]? = some i -> ∀ w ∈ nextS u i,isSeen seen w \/ w ∈ stk
 b : ∀ v ∈ stk,v = start \/ ∃ u i,seen[u]? = some true /\ code[u]? = some i /\ v ∈ nextS u i
 c : ∀ v,isSeen seen v -> v = start \/ ∃ u i,seen[u]? = some true /\ code[u]? = some i /\ v ∈ nextS u i /\ v ≠ (u : Int)
 d : isSeen seen start \/ start ∈ stk
theorem set_seen {seen : List Bool} {k : Nat} (hk : k < seen.length) {v : Int} : isSeen (seen.set k true) v ↔ v = (k : Int) \/ isSeen seen v := by
 unfold isSeen;constructor
 ·rintro ⟨h0,h⟩
  by_cases hv : v.toNat = k
  ·left; omega
  ·rw [List.getElem?_set_ne (fun e => hv e.symm)] at h; exact .inr ⟨h0,h⟩
 ·rintro (rfl | ⟨h0,h⟩)
  ·exact ⟨by omega,by rw [Int.toNat_natCast,List.getElem?_set_self hk]⟩
  ·refine ⟨h0,?_⟩
   by_cases hv : v.toNat = k
   ·rw [hv,List.getElem?_set_self hk]
   ·rw [List.getElem?_set_ne (fun e => hv e.symm)]; exact h
theorem seen_nat {seen : List Bool} {u : Nat} : seen[u]? = some true ↔ isSeen seen (u : Int) := by
 unfold isSeen; rw [Int.toNat_natCast]; exact ⟨fun h => ⟨by omega,h⟩,fun h => h.2⟩
theorem dfs_ok {code : List PIns} {start : Int} (hcl : closedS code) : ∀ (f : Nat) (seen : List Bool) (stk : List Int),seen.length = code.length -> (∀ v ∈ stk,0 <= v /\ v < (code.length : Int)) -> 3 * seen.count false + stk.length <= f -> DfsInv code start seen stk -> DfsInv code start (dfs code f seen stk) []
 | 0,seen,stk,_,_,hm,hi => by
  have : stk = [] := by cases stk with | nil => rfl | cons _ _ => simp at hm
  subst this; exact hi
 | f + 1,seen, [],_,_,_,hi => hi
 | f + 1,seen,v :: stk,hl,hs,hm,hi => by
  have hv := hs v (List.mem_cons_self ..);have hs' : ∀ w ∈ stk,0 <= w /\ w < (code.length : Int) := fun w hw => hs w (List.mem_cons_of_mem _ hw);obtain ⟨k,rfl⟩ := Int.eq_ofNat_of_zero_le hv.1;have hk : k < code.length := by omega
  obtain ⟨i,hci⟩ : ∃ i,code[k]? = some i := ⟨code[k]'hk,List.getElem?_eq_getElem _⟩
  obtain ⟨b,hb⟩ : ∃ b,seen[k]? = some b := ⟨seen[k]'(by omega),List.getElem?_eq_getElem _⟩
  simp only [List.length_cons] at hm;have hp : ∀ w,w ∈ ((k : Int) :: stk) -> w = (k : Int) \/ w ∈ stk := fun w hw => List.mem_cons.1 hw;unfold dfs;simp only [Int.toNat_natCast,hb,hci]
  cases b with
  | true =>
   have hks : isSeen seen (k : Int) := seen_nat.1 hb;refine dfs_ok hcl f seen stk hl hs' (by omega) ⟨fun u j hu hj w hw => ?_,fun w hw => hi.b w (List.mem_cons_of_mem _ hw),hi.c,?_⟩
   ·rcases hi.a u j hu hj w hw with h | h
    ·exact .inl h
    ·rcases hp w h with rfl | h
     ·exact .inl hks
     ·exact .inr h
   ·rcases hi.d with h | h
    ·exact .inl h
    ·rcases hp start h with h | h
     ·exact .inl (h ▸ hks)
     ·exact .inr h
  | false =>
   have hcnt := count_set hb;have hkl : k < seen.length := by omega
   have hnl := next_len k i;refine dfs_ok hcl f _ _ (by rw [List.length_set]; exact hl) (fun w hw => ?_) (by simp only [List.length_append,List.length_reverse]; omega) ⟨fun u j hu hj w hw => ?_,fun w hw => ?_,fun w hw => ?_,?_⟩
   ·rcases List.mem_append.1 hw with hw | hw
    ·exact hcl k i hci w (List.mem_reverse.1 hw)
    ·exact hs' w hw
   ·rcases (set_seen hkl).1 (seen_nat.1 hu) with h | h
    ·have : u = k := by omega
     subst this;rw [hci] at hj; cases hj;exact .inr (List.mem_append.2 (.inl (List.mem_reverse.2 hw)))
    ·rcases hi.a u j (seen_nat.2 h) hj w hw with h | h
     ·exact .inl ((set_seen hkl).2 (.inr h))
     ·rcases hp w h with h | h
      ·exact .inl ((set_seen hkl).2 (.inl h))
      ·exact .inr (List.mem_append.2 (.inr h))
   ·rcases List.mem_append.1 hw with hw | hw
    ·exact .inr ⟨k,i,seen_nat.2 ((set_seen hkl).2 (.inl rfl)),hci,List.mem_reverse.1 hw⟩
    ·rcases hi.b w (List.mem_cons_of_mem _ hw) with h | ⟨u,j,h1,h2,h3⟩
     ·exact .inl h
     ·exact .inr ⟨u,j,seen_nat.2 ((set_seen hkl).2 (.inr (seen_nat.1 h1))),h2,h3⟩
   ·rcases (set_seen hkl).1 hw with rfl | h
    ·rcases hi.b (k : Int) (List.mem_cons_self ..) with h | ⟨u,j,h1,h2,h3⟩
     ·exact .inl h
     ·refine .inr ⟨u,j,seen_nat.2 ((set_seen hkl).2 (.inr (seen_nat.1 h1))),h2,h3,fun e => ?_⟩;have : k = u := by omega
      subst this;rw [hb] at h1; cases h1
    ·rcases hi.c w h with h | ⟨u,j,h1,h2,h3,h4⟩
     ·exact .inl h
     ·exact .inr ⟨u,j,seen_nat.2 ((set_seen hkl).2 (.inr (seen_nat.1 h1))),h2,h3,h4⟩
   ·rcases hi.d with h | h
    ·exact .inl ((set_seen hkl).2 (.inr h))
    ·rcases hp start h with h | h
     ·exact .inl ((set_seen hkl).2 (.inl h))
     ·exact .inr (List.mem_append.2 (.inr h))
theorem reach_ok {code : List PIns} {start : Int} (hcl : closedS code) (hst : 0 <= start /\ start < (code.length : Int)) : DfsInv code start (reachS code start) [] := by
 have hno : ∀ v, ¬ isSeen (List.replicate code.length false) v := by
  rintro v ⟨h0,h⟩;rw [List.getElem?_replicate] at h
  split at h <;> cases h
 refine dfs_ok hcl _ _ _ (by simp) (fun v hv => ?_) (by simp) ⟨fun u i hu => absurd (seen_nat.1 hu) (hno _),fun v hv => ?_,fun v hv => absurd hv (hno v), .inr (by simp)⟩
 ·simp only [List.mem_cons,List.not_mem_nil,or_false] at hv; subst hv; exact hst
 ·simp only [List.mem_cons,List.not_mem_nil,or_false] at hv; exact .inl hv
theorem nums_mem : ∀ {L : List Bool} {s : Nat} {v : Int},v ∈ numsS s L ↔ ∃ k : Nat,L[k]? = some true /\ v = ((s + k : Nat) : Int)
 | [],s,v => ⟨fun h => (by cases h),fun ⟨k,h,_⟩ => by simp at h⟩
 | b :: l,s,v => by
  simp only [numsS,List.mem_append];constructor
  ·rintro (h | h)
   ·split at h
    ·rename_i hb;simp only [List.mem_cons,List.not_mem_nil,or_false] at h;exact ⟨0,by simp [hb],by rw [h]; simp⟩
    ·cases h
   ·obtain ⟨k,h1,h2⟩ := nums_mem.1 h;exact ⟨k + 1,by simpa using h1,by rw [h2]; congr 1; omega⟩
  ·rintro ⟨k,h1,h2⟩
   cases k with
   | zero => simp at h1; subst h1; left; simp [h2]
   | succ k => exact .inr (nums_mem.2 ⟨k,by simpa using h1,by rw [h2]; congr 1; omega⟩)
theorem nums_rise : ∀ (L : List Bool) (s : Nat),(numsS s L).Pairwise (· < ·)
 | [],s => .nil
 | b :: l,s => by
  simp only [numsS];have ih := nums_rise l (s + 1)
  split
  ·rw [List.singleton_append,List.pairwise_cons];refine ⟨fun v hv => ?_,ih⟩;obtain ⟨k,_,rfl⟩ := nums_mem.1 hv;omega
  ·exact ih
def GoodI (lo hi : Nat) (i : PIns) : Prop :=
  (i.op = 1 /\ i.x = 0 /\ i.y = 0 /\ rightS i.rs = true) \/ (i.op = 2 /\ i.rs = [] /\ ((lo : Int) <= i.x /\ i.x <= hi) /\ (lo : Int) <= i.y /\ i.y <= hi) \/ (i.op = 3 /\ i.rs = [] /\ i.y = 0 /\ (lo : Int) <= i.x /\ i.x <= hi) \/ (i.op = 4 /\ i.rs = [] /\ i.y = 0 /\ 0 <= i.x /\ i.x < 10) \/ ((i.op = 5 \/ i.op = 6) /\ i.rs = [] /\ i.y = 0 /\ i.x = 0)
theorem GoodI.mono {lo hi lo' hi' : Nat} {i : PIns} (h : GoodI lo hi i) (h1 : lo' <= lo) (h2 : hi <= hi') : GoodI lo' hi' i := by
  rcases h with h | ⟨a,b,c,d⟩ | ⟨a,b,c,d⟩ | h | h
  · exact .inl h
  · exact .inr (.inl ⟨a,b,by omega,by omega⟩)
  · exact .inr (.inr (.inl ⟨a,b,c,by omega⟩))
  · exact .inr (.inr (.inr (.inl h)))
  · exact .inr (.inr (.inr (.inr h)))
theorem GoodI.sp {lo hi s o : Nat} {lz : Bool} (h1 : lo <= s + 1 /\ s + 1 <= hi) (h2 : lo <= o /\ o <= hi) : GoodI lo hi (spI s o lz) := by
  refine .inr (.inl ?_)
  cases lz
  · refine ⟨rfl,rfl,?_⟩
    show ((lo : Int) <= ((s + 1 : Nat) : Int) /\ ((s + 1 : Nat) : Int) <= hi) /\ (lo : Int) <= (o : Int) /\ (o : Int) <= hi
    omega
  · refine ⟨rfl,rfl,?_⟩
    show ((lo : Int) <= (o : Int) /\ (o : Int) <= hi) /\ (lo : Int) <= ((s + 1 : Nat) : Int) /\ ((s + 1 : Nat) : Int) <= hi
    omega
theorem GoodI.jp {lo hi e : Nat} (h1 : lo <= e /\ e <= hi) : GoodI lo hi (jpI e) := by
  refine .inr (.inr (.inl ⟨rfl,rfl,rfl,?_⟩))
  show (lo : Int) <= (e : Int) /\ (e : Int) <= hi
  omega
theorem GoodI.save {lo hi : Nat} {x : Int} (h : 0 <= x /\ x < 10) : GoodI lo hi (mkI 4 x 0 []) := .inr (.inr (.inr (.inl ⟨rfl,rfl,rfl,h⟩)))
theorem repC_good {c : Nat -> List PIns} {z : Nat} (hc : ∀ b, ∀ i ∈ c b,GoodI b (b + z) i) : ∀ k b, ∀ i ∈ repC c z k b,GoodI b (b + k * z) i
  | 0,b,i,hi => by cases hi
  | k + 1,b,i,hi => by
    simp only [repC] at hi
    rw [Nat.succ_mul]
    rcases List.mem_append.1 hi with hi | hi
    · exact (hc b i hi).mono (Nat.le_refl _) (by omega)
    · exact (repC_good hc k _ i hi).mono (by omega) (by omega)
theorem optC_good {sp : Nat -> PIns} {c : Nat -> List PIns} {z lo hi : Nat} (hs : ∀ s,lo <= s -> s + 1 <= hi -> GoodI lo hi (sp s)) (hc : ∀ b, ∀ i ∈ c b,GoodI b (b + z) i) : ∀ k b,lo <= b -> b + k * (z + 1) <= hi -> ∀ i ∈ optC sp c z k b,GoodI lo hi i
  | 0,b,_,_,i,hi' => by cases hi'
  | k + 1,b,h1,h2,i,hi' => by
    simp only [optC] at hi'
    rw [Nat.succ_mul] at h2
    rcases List.mem_cons.1 hi' with rfl | hi'
    · exact hs b h1 (by omega)
    · rcases List.mem_append.1 hi' with hi' | hi'
      · exact (hc _ i hi').mono (by omega) (by omega)
      · exact optC_good hs hc k _ (by omega) (by omega) i hi'
def rsR (l : List Nod) : Prop := ∀ n ∈ l,n.op = 2 -> rightS n.rs = true
mutual
theorem codeT_good : ∀ (t : Tr) (b : Nat),t.ok -> rsR t.flat -> ∀ i ∈ codeT t b,GoodI b (b + t.sz) i
  | .mk n ks,b,hok,hrs,i,hi => by
    simp only [Tr.ok] at hok
    simp only [Tr.flat] at hrs
    have hc := fun b => catT_good ks b hok.2 (fun n hn => hrs n (List.mem_cons_of_mem _ hn))
    obtain ⟨_,hq⟩ := hok.1
    simp only [codeT] at hi
    simp only [Tr.sz]
    by_cases q2 : n.op = 2
    · rw [if_pos q2] at hi
      simp only [List.mem_cons,List.not_mem_nil,or_false] at hi; subst hi; exact .inl ⟨rfl,rfl,rfl,hrs n (List.mem_cons_self ..) q2⟩
    rw [if_neg q2] at hi
    by_cases q7 : n.op = 7
    · rw [if_pos q7] at hi
      simp only [List.mem_cons,List.not_mem_nil,or_false] at hi; subst hi; exact .inr (.inr (.inr (.inr ⟨.inl rfl,rfl,rfl,rfl⟩)))
    rw [if_neg q7] at hi
    by_cases q8 : n.op = 8
    · rw [if_pos q8] at hi
      simp only [List.mem_cons,List.not_mem_nil,or_false] at hi; subst hi; exact .inr (.inr (.inr (.inr ⟨.inr rfl,rfl,rfl,rfl⟩)))
    rw [if_neg q8] at hi
    have hz : ∀ s k,nodSz n s k = if n.op = 4 then s + 2 * (k - 1) else if n.op = 6 then s + 2 else if n.op = 5 then (if n.mx = -1 then n.mn.toNat * s + s + 2 else n.mn.toNat * s + (n.mx.toNat - n.mn.toNat) * (s + 1)) else s := by
      intro s k; unfold nodSz; rw [if_neg (by omega)]
    by_cases q3 : n.op = 3
    · rw [if_pos q3] at hi
      rw [hz,if_neg (by omega),if_neg (by omega),if_neg (by omega)]
      exact hc b i hi
    rw [if_neg q3] at hi
    by_cases q4 : n.op = 4
    · rw [if_pos q4] at hi
      have hz4 : nodSz n ks.sz ks.len = ks.sz + 2 * (ks.len - 1) := by rw [hz,if_pos q4]
      rw [hz4] at hi ⊢
      exact altT_good ks b (b + (ks.sz + 2 * (ks.len - 1))) hok.2 (fun n hn => hrs n (List.mem_cons_of_mem _ hn)) (Nat.le_refl _) i hi
    rw [if_neg q4] at hi
    by_cases q5 : n.op = 5
    · rw [if_pos q5] at hi
      rw [hz,if_neg q4,if_neg (by omega),if_pos q5]
      unfold rptC at hi
      by_cases qx : n.mx = -1
      · rw [if_pos qx] at hi ⊢
        rcases List.mem_append.1 hi with hi | hi
        · exact (repC_good hc _ _ i hi).mono (Nat.le_refl _) (by omega)
        · rcases List.mem_cons.1 hi with rfl | hi
          · exact GoodI.sp (by omega) (by omega)
          · rcases List.mem_append.1 hi with hi | hi
            · exact (hc _ i hi).mono (by omega) (by omega)
            · simp only [List.mem_cons,List.not_mem_nil,or_false] at hi; subst hi; exact GoodI.jp (by omega)
      · rw [if_neg qx] at hi ⊢
        rcases List.mem_append.1 hi with hi | hi
        · exact (repC_good hc _ _ i hi).mono (Nat.le_refl _) (by omega)
        · exact optC_good (fun s h1 h2 => GoodI.sp (by omega) (by omega)) hc _ _ (by omega) (by omega) i hi
    rw [if_neg q5] at hi
    by_cases q6 : n.op = 6
    · rw [if_pos q6] at hi
      rw [hz,if_neg q4,if_pos q6]
      rcases List.mem_cons.1 hi with rfl | hi
      · exact GoodI.save (by omega)
      · rcases List.mem_append.1 hi with hi | hi
        · exact (hc _ i hi).mono (by omega) (by omega)
        · simp only [List.mem_cons,List.not_mem_nil,or_false] at hi; subst hi; exact GoodI.save (by omega)
    · rw [if_neg q6] at hi; cases hi
theorem catT_good : ∀ (ts : Trs) (b : Nat),ts.ok -> rsR ts.flat -> ∀ i ∈ catT ts b,GoodI b (b + ts.sz) i
  | .nil,b,_,_,i,hi => by simp [catT] at hi
  | .cons t ts,b,hok,hrs,i,hi => by
    simp only [Trs.ok] at hok
    simp only [Trs.flat] at hrs
    simp only [catT] at hi
    simp only [Trs.sz]
    rcases List.mem_append.1 hi with hi | hi
    · exact (codeT_good t b hok.1 (fun n hn => hrs n (List.mem_append_left _ hn)) i hi).mono (Nat.le_refl _) (by omega)
    · exact (catT_good ts _ hok.2 (fun n hn => hrs n (List.mem_append_right _ hn)) i hi).mono (by omega) (by omega)
theorem altT_good : ∀ (ts : Trs) (b e : Nat),ts.ok -> rsR ts.flat -> b + (ts.sz + 2 * (ts.len - 1)) <= e -> ∀ i ∈ altT (jpI e) ts b,GoodI b e i
  | .nil,b,e,_,_,_,i,hi => by simp [altT] at hi
  | .cons t ts,b,e,hok,hrs,he,i,hi => by
    simp only [Trs.ok] at hok
    simp only [Trs.flat] at hrs
    simp only [altT] at hi
    simp only [Trs.sz,Trs.len] at he
    have h1 : rsR t.flat := fun n hn => hrs n (List.mem_append_left _ hn)
    have h2 : rsR ts.flat := fun n hn => hrs n (List.mem_append_right _ hn)
    by_cases q : ts.len = 0
    · rw [if_pos q] at hi
      exact (codeT_good t b hok.1 h1 i hi).mono (Nat.le_refl _) (by omega)
    · rw [if_neg q] at hi
      rcases List.mem_cons.1 hi with rfl | hi
      · exact GoodI.sp (by omega) (by omega)
      · rcases List.mem_append.1 hi with hi | hi
        · exact (codeT_good t _ hok.1 h1 i hi).mono (by omega) (by omega)
        · rcases List.mem_cons.1 hi with rfl | hi
          · exact GoodI.jp (by omega)
          · exact (altT_good ts _ e hok.2 h2 (by omega) i hi).mono (by omega) (by omega)
end
inductive Path (C : List PIns) : Nat -> Nat -> Prop where
  | refl (u : Nat) : Path C u u
  | step {u v w : Nat} {i : PIns} (h : C[u]? = some i) (hn : (v : Int) ∈ nextS u i) (p : Path C v w) : Path C u w
theorem Path.trans {C : List PIns} {u v w : Nat} (h : Path C u v) (g : Path C v w) : Path C u w := by
  induction h with
  | refl => exact g
  | step h hn _ ih => exact .step h hn (ih g)
theorem Path.fall {C : List PIns} {u : Nat} {i : PIns} (h : C[u]? = some i) (ho : i.op ≠ 2 /\ i.op ≠ 3 /\ i.op ≠ 7) : Path C u (u + 1) :=
  .step h (by unfold nextS; rw [if_neg ho.1,if_neg ho.2.1,if_neg ho.2.2]; exact List.mem_cons_self ..) (.refl _)
theorem Path.jp {C : List PIns} {u e : Nat} (h : C[u]? = some (jpI e)) : Path C u e :=
  .step h (by show (e : Int) ∈ nextS u (mkI 3 (e : Nat) 0 []); unfold nextS; rw [if_neg (show ¬ (mkI 3 (e : Nat) 0 []).op = 2 by show ¬ (3 : Int) = 2; decide),if_pos (show (mkI 3 (e : Nat) 0 []).op = 3 from rfl)]; exact List.mem_cons_self ..) (.refl _)
theorem Path.sp {C : List PIns} {u s o : Nat} {lz : Bool} (h : C[u]? = some (spI s o lz)) : Path C u (s + 1) /\ Path C u o := by
  have hn : nextS u (spI s o lz) = [(spI s o lz).x,(spI s o lz).y] := by
    unfold nextS
    rw [if_pos (by cases lz <;> rfl)]
  cases lz
  · exact ⟨.step h (by rw [hn]; exact List.mem_cons_self ..) (.refl _), .step h (by rw [hn]; exact List.mem_cons_of_mem _ (List.mem_cons_self ..)) (.refl _)⟩
  · exact ⟨.step h (by rw [hn]; exact List.mem_cons_of_mem _ (List.mem_cons_self ..)) (.refl _), .step h (by rw [hn]; exact List.mem_cons_self ..) (.refl _)⟩
theorem repC_path {C : List PIns} {c : Nat -> List PIns} {z : Nat} (hl : ∀ b,(c b).length = z) (hc : ∀ b,Seg C b (c b) -> Path C b (b + z)) : ∀ k b,Seg C b (repC c z k b) -> Path C b (b + k * z)
  | 0,b,_ => by rw [Nat.zero_mul]; exact .refl _
  | k + 1,b,h => by
    rw [repC] at h
    have h2 := h.right
    rw [hl] at h2
    have := repC_path hl hc k (b + z) h2
    rw [Nat.succ_mul,show b + (k * z + z) = b + z + k * z by omega]
    exact (hc b h.left).trans this
theorem code_path {C : List PIns} : ∀ (m : Nat) (t : Tr),t.flat.length <= m -> ∀ b : Nat,t.ok -> Seg C b (codeT t b) -> Path C b (b + t.sz) := by
  intro m
  induction m with
  | zero => intro t h; have := t.flat_pos; omega
  | succ m ih =>
    rintro ⟨n,ks⟩ hm b hok h
    simp only [Tr.flat,List.length_cons] at hm
    simp only [Tr.ok] at hok
    have hcat : ∀ (ts : Trs) (b : Nat),ts.flat.length <= m -> ts.ok -> Seg C b (catT ts b) -> Path C b (b + ts.sz) := by
      intro ts
      induction ts using Trs.rec (motive_1 := fun _ => True) with
      | mk => trivial
      | nil => intro b _ _ _; exact .refl _
      | cons t ts _ ih2 =>
        intro b h1 h2 h3
        simp only [Trs.flat,List.length_append] at h1
        simp only [Trs.ok] at h2
        simp only [catT] at h3
        have h4 := h3.right
        rw [codeT_len t b h2.1] at h4
        have h5 := ih2 (b + t.sz) (by omega) h2.2 h4
        simp only [Trs.sz]
        rw [<- Nat.add_assoc]
        exact (ih t (by omega) b h2.1 h3.left).trans h5
    obtain ⟨hno,hks⟩ := hok
    obtain ⟨_,hq⟩ := hno
    have hkl := fun b => catT_len ks b hks
    simp only [codeT] at h
    simp only [Tr.sz]
    have hz : ∀ s k,nodSz n s k = if n.op = 2 \/ n.op = 7 \/ n.op = 8 then 1 else if n.op = 4 then s + 2 * (k - 1) else if n.op = 6 then s + 2 else if n.op = 5 then (if n.mx = -1 then n.mn.toNat * s + s + 2 else n.mn.toNat * s + (n.mx.toNat - n.mn.toNat) * (s + 1)) else s := fun s k => rfl
    rw [hz]
    by_cases q2 : n.op = 2
    · rw [if_pos q2] at h
      rw [if_pos (.inl q2)]
      exact Path.fall h.head (by show (1 : Int) ≠ 2 /\ (1 : Int) ≠ 3 /\ (1 : Int) ≠ 7; decide)
    rw [if_neg q2] at h
    by_cases q7 : n.op = 7
    · rw [if_pos q7] at h
      rw [if_pos (.inr (.inl q7))]
      exact Path.fall h.head (by show (5 : Int) ≠ 2 /\ (5 : Int) ≠ 3 /\ (5 : Int) ≠ 7; decide)
    rw [if_neg q7] at h
    by_cases q8 : n.op = 8
    · rw [if_pos q8] at h
      rw [if_pos (.inr (.inr q8))]
      exact Path.fall h.head (by show (6 : Int) ≠ 2 /\ (6 : Int) ≠ 3 /\ (6 : Int) ≠ 7; decide)
    rw [if_neg q8] at h
    rw [if_neg (by omega)]
    by_cases q3 : n.op = 3
    · rw [if_pos q3] at h
      rw [if_neg (by omega),if_neg (by omega),if_neg (by omega)]
      exact hcat ks b (by omega) hks h
    rw [if_neg q3] at h
    by_cases q4 : n.op = 4
    · rw [if_pos q4] at h
      have hz4 : nodSz n ks.sz ks.len = ks.sz + 2 * (ks.len - 1) := by rw [hz,if_neg (by omega),if_pos q4]
      rw [hz4] at h
      rw [if_pos q4]
      cases ks with
      | nil => simp only [Trs.len] at hq; omega
      | cons t ts =>
        simp only [Trs.len] at hq
        simp only [Trs.flat,List.length_append] at hm
        simp only [Trs.ok] at hks
        simp only [altT] at h
        rw [if_neg (by omega)] at h
        have h1 := (Path.sp h.head).1
        have h2 := ih t (by omega) (b + 1) hks.1 h.tail.left
        have h3 := h.tail.right
        rw [codeT_len t _ hks.1] at h3
        exact h1.trans (h2.trans (Path.jp h3.head))
    rw [if_neg q4] at h
    rw [if_neg q4]
    by_cases q5 : n.op = 5
    · rw [if_pos q5] at h
      rw [if_neg (by omega),if_pos q5]
      unfold rptC at h
      by_cases qx : n.mx = -1
      · rw [if_pos qx] at h ⊢
        have h1 := repC_path hkl (fun b hb => hcat ks b (by omega) hks hb) _ _ h.left
        have h2 := h.right
        rw [repC_len hkl] at h2
        have h3 := (Path.sp h2.head).2
        rw [show b + (n.mn.toNat * ks.sz + ks.sz + 2) = b + n.mn.toNat * ks.sz + ks.sz + 2 by omega]
        exact h1.trans h3
      · rw [if_neg qx] at h ⊢
        have h1 := repC_path hkl (fun b hb => hcat ks b (by omega) hks hb) _ _ h.left
        have h2 := h.right
        rw [repC_len hkl] at h2
        by_cases hd : n.mx.toNat - n.mn.toNat = 0
        · rw [hd,Nat.zero_mul,Nat.add_zero]; exact h1
        · obtain ⟨d,hd2⟩ : ∃ d,n.mx.toNat - n.mn.toNat = d + 1 := ⟨n.mx.toNat - n.mn.toNat - 1,by omega⟩
          rw [hd2] at h2 ⊢
          rw [optC] at h2
          have h3 := (Path.sp h2.head).2
          rw [<- Nat.add_assoc]
          exact h1.trans h3
    rw [if_neg q5] at h
    by_cases q6 : n.op = 6
    · rw [if_pos q6] at h
      rw [if_pos q6]
      have h1 : Path C b (b + 1) := Path.fall h.head (by show (4 : Int) ≠ 2 /\ (4 : Int) ≠ 3 /\ (4 : Int) ≠ 7; decide)
      have h2 := hcat ks (b + 1) (by omega) hks h.tail.left
      have h3 := h.tail.right
      rw [hkl] at h3
      have h4 : Path C (b + 1 + ks.sz) (b + 1 + ks.sz + 1) := Path.fall h3.head (by show (4 : Int) ≠ 2 /\ (4 : Int) ≠ 3 /\ (4 : Int) ≠ 7; decide)
      rw [show b + (ks.sz + 2) = b + 1 + ks.sz + 1 by omega]
      exact h1.trans (h2.trans h4)
    · have hk0 : ks.len = 0 := by omega
      have := Trs.len_nil hk0
      subst this
      rw [if_neg q6,if_neg q5]
      exact .refl _
theorem dfs_in {code : List PIns} {I : Nat -> Prop} (hI : ∀ u i,I u -> code[u]? = some i -> ∀ v ∈ nextS u i,I v.toNat) : ∀ (f : Nat) (seen : List Bool) (stk : List Int),(∀ v ∈ stk,I v.toNat) -> (∀ u : Nat,seen[u]? = some true -> I u) -> ∀ u : Nat,(dfs code f seen stk)[u]? = some true -> I u
  | 0,seen,stk,_,h2,u,h => h2 u h
  | f + 1,seen, [],_,h2,u,h => h2 u h
  | f + 1,seen,v :: stk,h1,h2,u,h => by
    have hv := h1 v (List.mem_cons_self ..)
    have hs : ∀ w ∈ stk,I w.toNat := fun w hw => h1 w (List.mem_cons_of_mem _ hw)
    unfold dfs at h
    split at h
    · split at h
      · rename_i i hi
        refine dfs_in hI f _ _ (fun w hw => ?_) (fun w hw => ?_) u h
        · rcases List.mem_append.1 hw with hw | hw
          · exact hI _ i hv hi w (List.mem_reverse.1 hw)
          · exact hs w hw
        · by_cases he : v.toNat = w
          · rw [<- he]; exact hv
          · rw [List.getElem?_set_ne he] at hw; exact h2 w hw
      · exact h2 u h
    · exact dfs_in hI f _ _ hs h2 u h
theorem path_seen {code : List PIns} {start : Int} (hcl : closedS code) (hst : 0 <= start /\ start < (code.length : Int)) {u v : Nat} (p : Path code u v) : (reachS code start)[u]? = some true -> (reachS code start)[v]? = some true := by
  obtain ⟨ha,_,_,_⟩ := reach_ok hcl hst
  induction p with
  | refl => exact id
  | @step u v w i h hn _ ih =>
    intro hu
    refine ih ?_
    rcases ha u i hu h _ hn with hs | hs
    · exact seen_nat.2 hs
    · cases hs
theorem reach_start {code : List PIns} {s : Nat} (hcl : closedS code) (hs : s < code.length) : (reachS code (s : Nat))[s]? = some true := by
  obtain ⟨_,_,_,hd⟩ := reach_ok (start := ((s : Nat) : Int)) hcl ⟨by omega,by omega⟩
  rcases hd with hd | hd
  · exact seen_nat.2 hd
  · cases hd
mutual
theorem Tr.noop : ∀ t : Tr,True
  | .mk _ _ => trivial
theorem Trs.noop : ∀ t : Trs,True
  | .nil => trivial
  | .cons _ _ => trivial
end
theorem shape_rs {n : Nod} {g : Int} (h : (shapeN n g).2 = true) (h2 : n.op = 2) : rightS n.rs = true := by
  unfold shapeN at h
  split at h
  · cases h
  · rw [if_neg (show ¬ (n.op = 1 \/ n.op = 7 \/ n.op = 8) by omega)] at h
    have h : (n.kids == 0 && rightS n.rs) = true := h
    rw [Bool.and_eq_true] at h
    exact h.2
theorem kids_rs {l : List Nod} {h : Nat -> Nat -> Option (Nat × Nat)} (ih : ∀ at_ g r,h at_ g = some r -> at_ <= r.1 /\ ∀ j n,at_ <= j -> j < r.1 -> l[j]? = some n -> n.op = 2 -> rightS n.rs = true) : ∀ k at_ g r,kidsS h k at_ g = some r -> at_ <= r.1 /\ ∀ j n,at_ <= j -> j < r.1 -> l[j]? = some n -> n.op = 2 -> rightS n.rs = true
  | 0,at_,g,r,e => by
    simp only [kidsS,Option.some.injEq] at e
    subst e
    exact ⟨Nat.le_refl _,fun j n h1 h2 => by simp only at h2; omega⟩
  | k + 1,at_,g,r,e => by
    unfold kidsS at e
    cases hq : h at_ g with
    | none => rw [hq] at e; cases e
    | some q =>
      rw [hq] at e
      obtain ⟨t1,t2⟩ := ih _ _ _ hq
      obtain ⟨u1,u2⟩ := kids_rs ih k _ _ _ e
      refine ⟨Nat.le_trans t1 u1,fun j n h1 h2 hj ho => ?_⟩
      by_cases hjq : j < q.1
      · exact t2 j n h1 hjq hj ho
      · exact u2 j n (by omega) h2 hj ho
theorem one_rs {l : List Nod} : ∀ f at_ g r,oneW l f at_ g = some r -> at_ <= r.1 /\ ∀ j n,at_ <= j -> j < r.1 -> l[j]? = some n -> n.op = 2 -> rightS n.rs = true
  | 0,_,_,_,e => by simp [oneW] at e
  | f + 1,at_,g,r,e => by
    unfold oneW at e
    cases hn : l[at_]? with
    | none => rw [hn] at e; cases e
    | some n =>
      rw [hn] at e
      simp only at e
      split at e
      · rename_i hs
        obtain ⟨u1,u2⟩ := kids_rs (one_rs f) _ _ _ _ e
        refine ⟨by omega,fun j m h1 h2 hj ho => ?_⟩
        by_cases hja : j = at_
        · subst hja
          rw [hn] at hj
          cases hj
          exact shape_rs hs ho
        · exact u2 j m (by omega) h2 hj ho
      · cases e
theorem right_rs {l : List Nod} (h : rightN l = true) : rsR l := by
  unfold rightN at h
  simp only [Bool.and_eq_true] at h
  obtain ⟨_,h⟩ := h
  split at h
  · rename_i r hr
    rw [decide_eq_true_eq] at h
    obtain ⟨_,h2⟩ := one_rs _ _ _ _ hr
    intro n hn ho
    obtain ⟨j,hj⟩ := List.getElem?_of_mem hn
    exact h2 j n (Nat.zero_le _) (by rw [h]; exact lt_get hj) hj ho
  · cases h
structure RulesQ (n0 r0 : Nat) (C : List PIns) (B : List Int) (k : Nat) : Prop where
  bl : B.length = k
  fs : 0 < k -> B[0]? = some ((n0 : Nat) : Int)
  el : ∀ j,j < k -> ∃ (t : Tr) (b : Nat),t.ok /\ rsR t.flat /\ B[j]? = some (b : Int) /\ n0 <= b /\ (∀ b' : Int,B[j + 1]? = some b' -> b' = ((b + t.sz + 3 : Nat) : Int)) /\ (j + 1 = k -> n0 + C.length = b + t.sz + 3) /\ ∃ pre post,C = pre ++ ruleC t b (r0 + j) ++ post /\ n0 + pre.length = b
  al : ∀ i q,C[i]? = some q -> ∃ j,j < k /\ ∃ (t : Tr) (b : Nat),B[j]? = some (b : Int) /\ t.ok /\ rsR t.flat /\ b <= n0 + i /\ n0 + i < b + t.sz + 3 /\ b + t.sz + 3 <= n0 + C.length /\ q ∈ ruleC t b (r0 + j) /\ (ruleC t b (r0 + j))[n0 + i - b]? = some q
theorem compS_spec : ∀ (ls : List (List Nod)) (r : Nat) (c : List PIns) (s : List Int),(compS ls r c s).e = 0 -> ∃ C B,(compS ls r c s).code = c ++ C /\ (compS ls r c s).starts = s ++ B /\ RulesQ c.length r C B ls.length
  | [],r,c,s,h => by
    rw [compS_nil']
    exact ⟨[], [],by simp,by simp,rfl,fun h => by simp at h,fun j hj => by simp at hj,fun i q hi => by simp at hi⟩
  | l :: ls,r,c,s,h => by
    rw [compS] at h ⊢
    by_cases hr : rightN l = false
    · rw [if_pos hr] at h; cases h
    rw [if_neg hr] at h ⊢
    rw [Bool.not_eq_false] at hr
    by_cases hb : 400 < c.length + min (treeN l).sz 401 + 3
    · rw [if_pos hb] at h; cases h
    rw [if_neg hb] at h ⊢
    obtain ⟨t1,t2⟩ := tree_is hr
    have hrs : rsR (treeN l).flat := by rw [t2]; exact right_rs hr
    have hlen := ruleC_len (b := c.length) (r := r) t1
    obtain ⟨C,B,h1,h2,h3⟩ := compS_spec ls (r + 1) _ _ h
    rw [List.length_append,hlen] at h3
    refine ⟨ruleC (treeN l) c.length r ++ C,((c.length : Nat) : Int) :: B,by rw [h1,List.append_assoc],by rw [h2,List.append_assoc]; rfl,by simp [h3.bl],fun _ => rfl,fun j hj => ?_,fun i q hi => ?_⟩
    · cases j with
      | zero =>
        refine ⟨treeN l,c.length,t1,hrs,rfl,Nat.le_refl _,fun b' hb' => ?_,fun hj1 => ?_, [],C,by simp,by simp⟩
        · simp only [Nat.zero_add,List.getElem?_cons_succ] at hb'
          have hB := h3.bl
          have hlt := lt_get hb'
          rw [h3.fs (by omega)] at hb'
          cases hb'
          congr 1
        · simp only [List.length_cons] at hj1
          have hl0 : ls.length = 0 := by omega
          have hC : C = [] := by
            cases hc : C with
            | nil => rfl
            | cons q C' =>
              obtain ⟨j,hj,_⟩ := h3.al 0 q (by rw [hc]; rfl)
              omega
          rw [hC,List.append_nil,hlen]; omega
      | succ j =>
        simp only [List.length_cons] at hj
        obtain ⟨t,b,q1,q2,q3,q4,q5,q6,pre,post,q7,q8⟩ := h3.el j (by omega)
        refine ⟨t,b,q1,q2,q3,by omega,q5,fun hj1 => ?_,ruleC (treeN l) c.length r ++ pre,post,?_,?_⟩
        · simp only [List.length_cons] at hj1
          have := q6 (by omega)
          rw [List.length_append,hlen]; omega
        · rw [q7,show r + 1 + j = r + (j + 1) by omega]; simp only [List.append_assoc]
        · rw [List.length_append,hlen]; omega
    · by_cases hil : i < (ruleC (treeN l) c.length r).length
      · rw [List.getElem?_append_left hil] at hi
        refine ⟨0,by simp,treeN l,c.length,rfl,t1,hrs,by omega,by omega,by rw [List.length_append,hlen]; omega,List.mem_of_getElem? hi,?_⟩
        rw [show c.length + i - c.length = i by omega]; exact hi
      · rw [List.getElem?_append_right (by omega)] at hi
        obtain ⟨j,q1,t,b,q2,q3,q4,q5,q6,q7,q8,q9⟩ := h3.al _ q hi
        rw [hlen] at q5 q6 q9 hil
        refine ⟨j + 1,by simp only [List.length_cons]; omega,t,b,q2,q3,q4,by omega,by omega,by rw [List.length_append,hlen]; omega,by rw [show r + (j + 1) = r + 1 + j by omega]; exact q8,?_⟩
        rw [show r + (j + 1) = r + 1 + j by omega,show c.length + i - b = c.length + ((treeN l).sz + 3) + (i - ((treeN l).sz + 3)) - b by omega]
        exact q9
theorem good_next {lo hi u : Nat} {i : PIns} (h : GoodI lo hi i) (h1 : lo <= u + 1) (h2 : u + 1 <= hi) : ∀ v ∈ nextS u i,(lo : Int) <= v /\ v <= hi := by
  intro v hv
  unfold nextS at hv
  rcases h with ⟨a,_⟩ | ⟨a,_,c,d⟩ | ⟨a,_,_,d⟩ | ⟨a,_⟩ | ⟨a,_⟩
  · rw [if_neg (by omega),if_neg (by omega),if_neg (by omega)] at hv
    simp only [List.mem_cons,List.not_mem_nil,or_false] at hv; omega
  · rw [if_pos a] at hv
    simp only [List.mem_cons,List.not_mem_nil,or_false] at hv
    rcases hv with rfl | rfl <;> omega
  · rw [if_neg (by omega),if_pos a] at hv
    simp only [List.mem_cons,List.not_mem_nil,or_false] at hv; omega
  · rw [if_neg (by omega),if_neg (by omega),if_neg (by omega)] at hv
    simp only [List.mem_cons,List.not_mem_nil,or_false] at hv; omega
  · rw [if_neg (by omega),if_neg (by omega),if_neg (by omega)] at hv
    simp only [List.mem_cons,List.not_mem_nil,or_false] at hv; omega
theorem good_shaped {lo hi n ns pc : Nat} {i : PIns} (h : GoodI lo hi i) (h1 : hi < n) (h2 : pc + 1 < n) : shapedS n ns pc i = true := by
  have hin : ∀ v : Int,(lo : Int) <= v -> v <= hi -> inS v n = true := fun v a b => inS_iff.2 ⟨by omega,by omega⟩
  have hd : decide (((pc + 1 : Nat) : Int) < n) = true := by rw [decide_eq_true_eq]; omega
  unfold shapedS
  rcases h with ⟨a,b,c,d⟩ | ⟨a,b,c,d⟩ | ⟨a,b,c,d⟩ | ⟨a,b,c,d⟩ | ⟨a,b,c,d⟩
  · rw [if_pos a,hd,b,c,d]; rfl
  · rw [if_neg (by omega),if_pos a,b,hin _ c.1 c.2,hin _ d.1 d.2]; rfl
  · rw [if_neg (by omega),if_neg (by omega),if_pos a,b,c,hin _ d.1 d.2]; rfl
  · rw [if_neg (by omega),if_neg (by omega),if_neg (by omega),if_pos a,b,c,hd,inS_iff.2 ⟨d.1,d.2⟩]; rfl
  · rw [if_neg (by omega),if_neg (by omega),if_neg (by omega),if_neg (by omega),if_pos a,b,c,hd,d]; rfl
theorem rule_good {t : Tr} {b r o : Nat} {q : PIns} (h1 : t.ok) (h2 : rsR t.flat) (h : (ruleC t b r)[o]? = some q) : (o < t.sz + 2 /\ GoodI b (b + t.sz + 2) q) \/ (o = t.sz + 2 /\ q = mkI 7 (r : Nat) 0 []) := by
  have hl := codeT_len t (b + 1) h1
  have hA : ruleC t b r = (mkI 4 0 0 [] :: (codeT t (b + 1) ++ [mkI 4 1 0 []])) ++ [mkI 7 (r : Nat) 0 []] := by unfold ruleC; simp
  have hAl : (mkI 4 0 0 [] :: (codeT t (b + 1) ++ [mkI 4 1 0 []])).length = t.sz + 2 := by simp [hl]
  rw [hA] at h
  by_cases ho : o < t.sz + 2
  · rw [List.getElem?_append_left (by omega)] at h
    refine .inl ⟨ho,?_⟩
    have hm := List.mem_of_getElem? h
    rcases List.mem_cons.1 hm with rfl | hm
    · exact GoodI.save (by omega)
    · rcases List.mem_append.1 hm with hm | hm
      · exact (codeT_good t (b + 1) h1 h2 q hm).mono (by omega) (by omega)
      · simp only [List.mem_cons,List.not_mem_nil,or_false] at hm; subst hm; exact GoodI.save (by omega)
  · rw [List.getElem?_append_right (by omega),hAl] at h
    have h0 := lt_get h
    simp only [List.length_cons,List.length_nil] at h0
    have ho2 : o = t.sz + 2 := by omega
    refine .inr ⟨ho2,?_⟩
    rw [ho2,Nat.sub_self] at h
    exact (Option.some.inj h).symm
structure RuleQ (p : Pg) (r s e : Nat) : Prop where
  st : p.starts[r]? = some (s : Int)
  se : s < e
  el : e <= p.code.length
  nx : ∀ b' : Int,p.starts[r + 1]? = some b' -> b' = (e : Int)
  la : r + 1 = p.starts.length -> p.code.length = e
  mt : p.code[e - 1]? = some (mkI 7 (r : Nat) 0 [])
  fi : (reachN p (r : Nat))[0]? = some (s : Int)
  lt : (reachN p (r : Nat))[(reachN p (r : Nat)).length - 1]? = some ((e - 1 : Nat) : Int)
theorem rise_ends {X : List Int} {a b : Int} (hp : X.Pairwise (· < ·)) (ha : a ∈ X) (hb : b ∈ X) (h : ∀ v ∈ X,a <= v /\ v <= b) : X[0]? = some a /\ X[X.length - 1]? = some b := by
  obtain ⟨i,hi⟩ := List.getElem?_of_mem ha
  obtain ⟨j,hj⟩ := List.getElem?_of_mem hb
  have hil := lt_get hi
  have hjl := lt_get hj
  have hlt : ∀ u v (x y : Int),u < v -> X[u]? = some x -> X[v]? = some y -> x < y := fun u v x y huv hx hy => by
    have := List.pairwise_iff_getElem.1 hp u v (lt_get hx) (lt_get hy) huv
    have ex : X[u]'(lt_get hx) = x := Option.some.inj ((List.getElem?_eq_getElem _).symm.trans hx)
    have ey : X[v]'(lt_get hy) = y := Option.some.inj ((List.getElem?_eq_getElem _).symm.trans hy)
    rw [ex,ey] at this; exact this
  constructor
  · obtain ⟨x,hx⟩ : ∃ x,X[0]? = some x := ⟨X[0]'(by omega),List.getElem?_eq_getElem _⟩
    have := h x (List.mem_of_getElem? hx)
    by_cases h0 : i = 0
    · rw [<- h0]; exact hi
    · have := hlt 0 i x a (by omega) hx hi
      omega
  · obtain ⟨x,hx⟩ : ∃ x,X[X.length - 1]? = some x := ⟨X[X.length - 1]'(by omega),List.getElem?_eq_getElem _⟩
    have := h x (List.mem_of_getElem? hx)
    by_cases h0 : j = X.length - 1
    · rw [<- h0]; exact hj
    · have := hlt j (X.length - 1) b x (by omega) hj hx
      omega
theorem made_right {parts : List (List Nod)} (hl : parts.length <= 8) (he : (compileS parts).e = 0) (hcl : (compileS parts).code.length <= 400) :
    RightQ (pgV (compileS parts).code (compileS parts).starts) /\ (compileS parts).starts.length = parts.length /\ ∀ r,r < parts.length -> ∃ s e,RuleQ (pgV (compileS parts).code (compileS parts).starts) r s e := by
  have hcs : compileS parts = compS parts 0 [] [] := by unfold compileS; rw [if_neg (by omega)]
  rw [hcs] at he hcl ⊢
  obtain ⟨C,B,h1,h2,h3⟩ := compS_spec parts 0 [] [] he
  simp only [List.nil_append] at h1 h2
  simp only [List.length_nil] at h3
  rw [h1] at hcl
  rw [h1,h2]
  have hBl := h3.bl
  have hsh : ∀ pc i,C[pc]? = some i -> shapedS C.length B.length pc i = true := by
    intro pc i hi
    obtain ⟨j,q1,t,b,q2,q3,q4,q5,q6,q7,q8,q9⟩ := h3.al pc i hi
    rw [Nat.zero_add] at q9
    rcases rule_good q3 q4 q9 with ⟨g1,g2⟩ | ⟨g1,g2⟩
    · exact good_shaped g2 (by omega) (by omega)
    · rw [g2]
      have : inS ((j : Nat) : Int) B.length = true := inS_iff.2 ⟨by omega,by omega⟩
      unfold shapedS mkI
      simp [this]
  have hclo : closedS C := closed_of (p := pgV C B) hsh
  have hrule : ∀ r,r < parts.length -> ∃ s e : Nat,B[r]? = some (s : Int) /\ s < e /\ e <= C.length /\ (∀ b' : Int,B[r + 1]? = some b' -> b' = (e : Int)) /\ (r + 1 = parts.length -> C.length = e) /\ C[e - 1]? = some (mkI 7 (r : Nat) 0 []) /\ (∀ u : Nat,(reachS C (s : Nat))[u]? = some true -> s <= u /\ u < e) /\ (reachS C (s : Nat))[s]? = some true /\ (reachS C (s : Nat))[e - 1]? = some true /\ ∀ u i,s <= u -> u < e -> C[u]? = some i -> i.op = 7 -> i.x = (r : Int) := by
    intro r hr
    obtain ⟨t,b,q1,q2,q3,q4,q5,q6,pre,post,q7,q8⟩ := h3.el r hr
    rw [Nat.zero_add] at q6 q8
    rw [Nat.zero_add] at q7
    have hrl := ruleC_len (b := b) (r := r) q1
    have hCl : C.length = b + (t.sz + 3) + post.length := by rw [q7,List.length_append,List.length_append,hrl,q8]
    have hat : ∀ u,b <= u -> u < b + t.sz + 3 -> C[u]? = (ruleC t b r)[u - b]? := fun u g1 g2 => by
      rw [q7,List.append_assoc,List.getElem?_append_right (by omega),q8,List.getElem?_append_left (by omega)]
    have hseg : Seg C b (ruleC t b r) := ⟨post,by rw [q7,List.append_assoc, <- q8,List.drop_left]⟩
    have hin : ∀ u : Nat,(reachS C (b : Nat))[u]? = some true -> b <= u /\ u < b + t.sz + 3 := by
      unfold reachS
      refine dfs_in (I := fun u => b <= u /\ u < b + t.sz + 3) (fun u i hu hi v hv => ?_) _ _ _ (fun v hv => ?_) (fun u hu => ?_)
      · rw [hat u hu.1 hu.2] at hi
        rcases rule_good q1 q2 hi with ⟨g1,g2⟩ | ⟨g1,g2⟩
        · have := good_next (u := u) g2 (by omega) (by omega) v hv
          omega
        · rw [g2] at hv
          have : nextS u (mkI 7 (r : Nat) 0 []) = [] := by unfold nextS mkI; simp
          rw [this] at hv; cases hv
      · simp only [List.mem_cons,List.not_mem_nil,or_false] at hv; subst hv
        rw [Int.toNat_natCast]; omega
      · rw [List.getElem?_replicate] at hu
        split at hu <;> cases hu
    have hs := reach_start (s := b) hclo (by omega)
    have hmt : C[b + t.sz + 3 - 1]? = some (mkI 7 (r : Nat) 0 []) := by
      rw [hat _ (by omega) (by omega)]
      unfold ruleC
      have hl1 := codeT_len t (b + 1) q1
      rw [show b + t.sz + 3 - 1 - b = (t.sz + 1) + 1 by omega,List.getElem?_cons_succ,List.getElem?_append_right (by omega),hl1,show t.sz + 1 - t.sz = 1 by omega]
      rfl
    have hpath : Path C b (b + t.sz + 3 - 1) := by
      unfold ruleC at hseg
      have p1 : Path C b (b + 1) := Path.fall hseg.head (by show (4 : Int) ≠ 2 /\ (4 : Int) ≠ 3 /\ (4 : Int) ≠ 7; decide)
      have p2 := code_path (C := C) _ t (Nat.le_refl _) (b + 1) q1 hseg.tail.left
      have h4 := hseg.tail.right
      rw [codeT_len t _ q1] at h4
      have p3 : Path C (b + 1 + t.sz) (b + 1 + t.sz + 1) := Path.fall h4.head (by show (4 : Int) ≠ 2 /\ (4 : Int) ≠ 3 /\ (4 : Int) ≠ 7; decide)
      rw [show b + t.sz + 3 - 1 = b + 1 + t.sz + 1 by omega]
      exact p1.trans (p2.trans p3)
    refine ⟨b,b + t.sz + 3,q3,by omega,by omega,fun b' hb' => q5 b' hb',q6,hmt,hin,hs,path_seen hclo ⟨by omega,by omega⟩ hpath hs,fun u i g1 g2 hi ho => ?_⟩
    rw [hat u g1 g2] at hi
    rcases rule_good q1 q2 hi with ⟨_,g3⟩ | ⟨_,g3⟩
    · rcases g3 with ⟨a,_⟩ | ⟨a,_⟩ | ⟨a,_⟩ | ⟨a,_⟩ | ⟨a,_⟩ <;> omega
    · rw [g3]; rfl
  have hR : RightQ (pgV C B) := by
    refine ⟨hcl,by show B.length <= 8; omega,hsh,fun v hv => ?_,fun r s hs pc i hpc hseen hi ho => ?_⟩
    · obtain ⟨r,hr⟩ := List.getElem?_of_mem (show v ∈ B from hv)
      obtain ⟨s,e,g1,g2,g3,_⟩ := hrule r (by rw [<- hBl]; exact lt_get hr)
      rw [g1] at hr
      cases hr
      show (0 : Int) <= (s : Int) /\ (s : Int) < (C.length : Int)
      omega
    · have hs : B[r]? = some s := hs
      obtain ⟨s',e,g1,g2,g3,g4,g5,g6,g7,g8,g9,g10⟩ := hrule r (by rw [<- hBl]; exact lt_get hs)
      rw [g1] at hs
      cases hs
      obtain ⟨k1,k2⟩ := g7 pc hseen
      exact g10 pc i k1 k2 hi ho
  refine ⟨hR,by rw [hBl],fun r hr => ?_⟩
  obtain ⟨s,e,g1,g2,g3,g4,g5,g6,g7,g8,g9,g10⟩ := hrule r hr
  have hrn : reachN (pgV C B) (r : Nat) = numsS 0 (reachS C (s : Nat)) := by
    unfold reachN
    have hi : inS ((r : Nat) : Int) (pgV C B).starts.length = true := inS_iff.2 ⟨by omega,by show ((r : Nat) : Int) < (B.length : Nat); omega⟩
    rw [dec_yes hR,hi]
    have hgd : (pgV C B).starts.getD ((r : Nat) : Int).toNat 0 = (s : Int) := by
      rw [Int.toNat_natCast,List.getD_eq_getElem?_getD]
      show (B[r]?).getD 0 = _
      rw [g1]; rfl
    rw [hgd]; rfl
  have hends := rise_ends (nums_rise (reachS C (s : Nat)) 0) (a := (s : Int)) (b := ((e - 1 : Nat) : Int)) (nums_mem.2 ⟨s,g8,by rw [Nat.zero_add]⟩) (nums_mem.2 ⟨e - 1,g9,by rw [Nat.zero_add]⟩) (fun v hv => by
    obtain ⟨k,k1,k2⟩ := nums_mem.1 hv
    have := g7 k k1
    omega)
  exact ⟨s,e,g1,g2,g3,fun b' hb' => g4 b' hb',fun hr1 => g5 (by rw [<- hBl]; exact hr1),g6,by rw [hrn]; exact hends.1,by rw [hrn]; exact hends.2⟩
theorem compS_bad : ∀ (ls : List (List Nod)) (r : Nat) (c : List PIns) (s : List Int),(compS ls r c s).e ≠ 0 -> (compS ls r c s).code = [] /\ (compS ls r c s).starts = []
 | [],r,c,s,h => by rw [compS_nil] at h; exact absurd rfl h
 | l :: ls,r,c,s,h => by
  rw [compS] at h ⊢
  split
  ·exact ⟨rfl,rfl⟩
  ·rename_i h1;rw [if_neg h1] at h
   split
   ·exact ⟨rfl,rfl⟩
   ·rename_i h2;rw [if_neg h2] at h;exact compS_bad ls _ _ _ h
theorem compile_bad {ls : List (List Nod)} (h : (compileS ls).e ≠ 0) : (compileS ls).code = [] /\ (compileS ls).starts = [] := by
 unfold compileS at h ⊢
 split
 ·exact ⟨rfl,rfl⟩
 ·rename_i h1;rw [if_neg h1] at h;exact compS_bad _ _ _ _ h
theorem right_none : RightQ (pgV [] []) := ⟨by simp [pgV],by simp [pgV],fun pc i h => by simp [pgV] at h,fun v h => by simp [pgV] at h,fun r s h => by simp [pgV] at h⟩
theorem compile_right {ls : List (List Nod)} (hl : ls.length <= 8) (hcl : (compileS ls).code.length <= 400) : RightQ (pgV (compileS ls).code (compileS ls).starts) := by
 by_cases he : (compileS ls).e = 0
 ·exact (made_right hl he hcl).1
 ·rw [(compile_bad he).1,(compile_bad he).2]; exact right_none
noncomputable def partsX (ps : List (List UInt8)) : List (List Nod) := ps.map fun b => (parseX b).1
theorem partsX_succ {ps : List (List UInt8)} {i : Nat} {b : List UInt8} (h : ps[i]? = some b) : partsX (ps.take (i + 1)) = partsX (ps.take i) ++ [(parseX b).1] := by
 unfold partsX;rw [List.take_add_one,h,Option.toList_some,List.map_append]; rfl
structure Emb (gs gs' : List (Nat × Nat)) (p : Nat) : Prop where
  el : ∀ i,i < gs.length -> gs'[i + p]? = gs[i]?
  en : gs'[gs.length + p]? = some (41,1)
theorem Emb.len {gs gs' : List (Nat × Nat)} {p : Nat} (h : Emb gs gs' p) : gs.length + p < gs'.length := lt_get h.en
theorem isS_ge {gs : List (Nat × Nat)} {i : Nat} {r : Int} (h : gs.length <= i) : isS gs i r = false := by
  unfold isS; rw [List.getElem?_eq_none h]
theorem Emb.is {gs gs' : List (Nat × Nat)} {p : Nat} (h : Emb gs gs' p) {i : Nat} {r : Int} (hr : r ≠ 41) (hi : i <= gs.length) : isS gs' (i + p) r = isS gs i r := by
  rcases Nat.lt_or_ge i gs.length with h1 | h1
  · unfold isS; rw [h.el i h1]
  · obtain rfl : i = gs.length := by omega
    rw [isS_ge (Nat.le_refl _)]
    unfold isS; rw [h.en]; simp only [beq_eq_false_iff_ne]
    exact fun h2 => hr h2.symm
def OkE {α : Type} (gs : List (Nat × Nat)) (p : Nat) (R R' : PR α) : Prop := ∀ v j,R = .ok v j -> (R' = .ok v (j + p) \/ ∃ w,R' = .er 10 w) /\ j <= gs.length
def OkS {α : Type} (gs : List (Nat × Nat)) (p : Nat) (R R' : PR α) : Prop := ∀ v j,R = .ok v j -> R' = .ok v (j + p) /\ j <= gs.length
theorem OkS.e {α : Type} {gs : List (Nat × Nat)} {p : Nat} {R R' : PR α} (h : OkS gs p R R') : OkE gs p R R' := fun v j e => ⟨.inl (h v j e).1,(h v j e).2⟩
def c6 (l : List Nod) : Nat := l.countP fun n => n.op == 6
def ixF_Ba (fr : Go.V.Fr) (k : Nat) : Go.V.D := Go.V.nth .junk fr.loc k
abbrev Cps := Nat -> Int
def capsC (f : Cps) : List D := [.int .i64 (f 0), .int .i64 (f 1), .int .i64 (f 2), .int .i64 (f 3), .int .i64 (f 4), .int .i64 (f 5), .int .i64 (f 6), .int .i64 (f 7), .int .i64 (f 8), .int .i64 (f 9)]
def noCaps : Cps := fun _ => -1
def zeroCaps : Cps := fun _ => 0
def setC (f : Cps) (x : Nat) (v : Int) : Cps := fun j => if j = x then v else f j
structure Tr3 where
 pc : Nat
 at_ : Nat
 c : Cps
def tryC (t : Tr3) : List D := .int .i64 (t.pc : Nat) :: .int .i64 (t.at_ : Nat) :: capsC t.c
theorem set_caps {a b : D} {f : Cps} {x : Nat} {v : Int} (hx : x < 10) : setMany (a :: b :: capsC f) (2 + x) [.int .i64 v] = a :: b :: capsC (setC f x v) := by
 match x,hx with
 | 0,_ => rfl
 | 1,_ => rfl
 | 2,_ => rfl
 | 3,_ => rfl
 | 4,_ => rfl
 | 5,_ => rfl
 | 6,_ => rfl
 | 7,_ => rfl
 | 8,_ => rfl
 | 9,_ => rfl
inductive Res where
 | found
 | more (l : List Tr3)
def stepS (code : List PIns) (gs : List (Nat × Nat)) (pl : List Int) (t : Tr3) : Res :=
 match code[t.pc]? with
 | none => .more []
 | some i =>
  if i.op = 7 then .found
  else if i.op = 2 then .more [⟨i.x.toNat,t.at_,t.c⟩,⟨i.y.toNat,t.at_,t.c⟩]
  else if i.op = 3 then .more [⟨i.x.toNat,t.at_,t.c⟩]
  else if i.op = 4 then .more [⟨t.pc + 1,t.at_,setC t.c i.x.toNat (pl.getD t.at_ 0)⟩]
  else if i.op = 5 then .more (if t.at_ = 0 then [⟨t.pc + 1,t.at_,t.c⟩] else [])
  else if i.op = 6 then .more (if t.at_ = gs.length then [⟨t.pc + 1,t.at_,t.c⟩] else [])
  else .more (if t.at_ < gs.length /\ hasS i.rs ((gs.getD t.at_ (0,0)).1 : Nat) = true then [⟨t.pc + 1,t.at_ + 1,t.c⟩] else [])
theorem shaped_cases {n ns pc : Nat} {i : PIns} (h : shapedS n ns pc i = true) :
  i.op = 7 \/ (i.op = 2 /\ (0 <= i.x /\ i.x < (n : Int)) /\ 0 <= i.y /\ i.y < (n : Int)) \/ (i.op = 3 /\ 0 <= i.x /\ i.x < (n : Int)) \/ (i.op = 4 /\ pc + 1 < n /\ 0 <= i.x /\ i.x < 10) \/ (i.op = 5 /\ pc + 1 < n) \/ (i.op = 6 /\ pc + 1 < n) \/ (i.op = 1 /\ pc + 1 < n) := by
 unfold shapedS at h
 split at h
 ·rename_i h1;simp only [Bool.and_eq_true,decide_eq_true_eq] at h;refine .inr (.inr (.inr (.inr (.inr (.inr ⟨h1,?_⟩)))));omega
 ·simp only [Bool.and_eq_true] at h;obtain ⟨_,h⟩ := h
  split at h
  ·rename_i h2;simp only [Bool.and_eq_true] at h;exact .inr (.inl ⟨h2,inS_iff.1 h.1,inS_iff.1 h.2⟩)
  ·simp only [Bool.and_eq_true] at h;obtain ⟨_,h⟩ := h
   split at h
   ·rename_i h3;exact .inr (.inr (.inl ⟨h3,inS_iff.1 h⟩))
   ·split at h
    ·rename_i h4;simp only [Bool.and_eq_true,decide_eq_true_eq] at h;exact .inr (.inr (.inr (.inl ⟨h4,by omega,inS_iff.1 h.2⟩)))
    ·split at h
     ·rename_i h5;simp only [Bool.and_eq_true,decide_eq_true_eq] at h
      rcases h5 with h5 | h5
      ·exact .inr (.inr (.inr (.inr (.inl ⟨h5,by omega⟩))))
      ·exact .inr (.inr (.inr (.inr (.inr (.inl ⟨h5,by omega⟩)))))
     ·split at h
      ·rename_i h7;exact .inl h7
      ·cases h
def stepPost (N : Nat) (S : St) (k : Nat) (p : Pg) (gs : List (Nat × Nat)) (plD seenD : D) (pls : List Int) (H : List Ent) (t : Tr3) (stk : List Tr3) (d : D) (st' : St) : Prop :=
 match stepS p.code gs pls t with
 | .found => d = .tup [.agg (capsC t.c), .bool true] /\ ∃ leftD,Has N S st' (.box k (.mem 0 false [p.cd,p.sd,gotsD gs,plD,seenD,leftD]) :: .lst leftD 12 (stk.reverse.map tryC) :: .lst plD 1 (pls.map intC) :: H)
 | .more l => d = .tup [.agg (capsC zeroCaps), .bool false] /\ ∃ leftD,Has N S st' (.box k (.mem 0 false [p.cd,p.sd,gotsD gs,plD,seenD,leftD]) :: .lst leftD 12 ((l ++ stk).reverse.map tryC) :: .lst plD 1 (pls.map intC) :: H)
theorem step_ev {N : Nat} {S st : St} {H : List Ent} {k : Nat} {p : Pg} {gs : List (Nat × Nat)} {plD seenD leftD : D} {pls : List Int} {t : Tr3} {stk : List Tr3} {i : PIns} (hF : S.flr <= N) (hp : p.ok) (hi : p.code[t.pc]? = some i) (hsh : shapedS p.code.length p.starts.length t.pc i = true) (hgl : gs.length <= 1048576) (hat : t.at_ <= gs.length) (hpl : pls.length = gs.length + 1) (hsl : stk.length <= 536870912)
  (hH : Has N S st (.box k (.mem 0 false [p.cd,p.sd,gotsD gs,plD,seenD,leftD]) :: .lst leftD 12 (stk.reverse.map tryC) :: .lst plD 1 (pls.map intC) :: H)) :
  ∃ d st',Ev pv 28 [.ptr k 0 0, .agg (tryC t)] st d st' /\ stepPost N S k p gs plD seenD pls H t stk d st' := by
 have hc := hp.c.arg N S;have hlen := hp.cl;have hgr : Arg N S 2 (gotsD gs) (gs.map gotC) := Arg.pure (fun st => gots_rows st gs);have hr := ins_get hi;have hrd := (hp.i i (List.mem_of_getElem? hi)).1;have hra := hrd.arg N S;have hrl := (hp.i i (List.mem_of_getElem? hi)).2;have hlt := lt_get hi;have hcases := shaped_cases hsh;obtain ⟨op,x,y,rd,rs⟩ := i;obtain ⟨pc,at_,c⟩ := t;simp only at *;refine Ev.mkE rfl fi28 rfl rfl rfl ?_;refine zE ?_;change EvC _ _ _ _ st _;refine zQ 2 ?_;refine qb hH fun k3 st hk3 hH => ?_;dsimp only [u2,u1,u3,u4,setMany,u5,u6,D.cells,Nat.reduceAdd,insC,intC,tryC,capsC] at hH;refine qa hH fun k4 st hk4 hH => ?_;refine zQ 11 ?_;refine qr fun p15 hp15 => ?_;refine EvO.rloadS rfl (ev rfl) (by assumption) rfl (by dsimp only [Fr.put,u1,u2] <;> rfl) ?_;refine qa hH fun k6 st hk6 hH => ?_;refine qS hH at0 fun st hH => ?_;dsimp only [u2,u1,u3,u4,setMany,u5,u6,D.cells,Nat.reduceAdd,insC,intC,tryC,capsC] at hH;refine zQ 3 ?_;refine EvO.hloadS (m := 12) hH rfl (ev rfl) (by exact at2) (by dsimp only [List.drop_succ_cons,List.drop_zero,List.take_succ_cons,List.take_zero,insC,intC,tryC,capsC] <;> rfl) rfl rfl (by dsimp only [Fr.put,u1,u2] <;> rfl) ?_;refine qa hH fun k7 st hk7 hH => ?_;refine qS hH at0 fun st hH => ?_;dsimp only [u2,u1,u3,u4,setMany,u5,u6,D.cells,Nat.reduceAdd,insC,intC,tryC,capsC] at hH;refine zQ 7 ?_;refine qT hH at0 fun st hH => ?_;dsimp only [u2,u1,u3,u4,setMany,u5,u6,D.cells,Nat.reduceAdd,insC,intC,tryC,capsC] at hH;refine zQ 7 ?_;have hze : D.agg [.int .i64 0, .int .i64 0, .int .i64 0, .int .i64 0, .int .i64 0, .int .i64 0, .int .i64 0, .int .i64 0, .int .i64 0, .int .i64 0] = .agg (capsC zeroCaps) := rfl;refine EvC.merge (fun fr st => ∃ (t' : Tr3) (tmp : List (Nat × D)),fr = ⟨24, [.ptr k 0 0,ixF_Ba fr 1,ixF_Ba fr 2, .ptr k3 0 0, .ptr k4 0 0, .bool false, .ptr k6 0 0, .ptr k7 0 0,ixF_Ba fr 8,ixF_Ba fr 9,ixF_Ba fr 10,ixF_Ba fr 11,ixF_Ba fr 12,ixF_Ba fr 13,ixF_Ba fr 14,ixF_Ba fr 15,ixF_Ba fr 16,ixF_Ba fr 17,ixF_Ba fr 18,ixF_Ba fr 19,ixF_Ba fr 20,ixF_Ba fr 21,ixF_Ba fr 22,ixF_Ba fr 23],tmp⟩ /\ Has N S st (.box k7 (.mem 0 false (tryC t')) :: .box k6 (.mem 0 false [.int .i64 op, .int .i64 x, .int .i64 y,rd]) :: .box k4 (.mem 0 false (capsC zeroCaps)) :: .box k3 (.mem 0 false (tryC ⟨pc,at_,c⟩)) :: .box k (.mem 0 false [p.cd,p.sd,gotsD gs,plD,seenD,leftD]) :: .lst leftD 12 (stk.reverse.map tryC) :: .lst plD 1 (pls.map intC) :: H) /\ (stepS p.code gs pls ⟨pc,at_,c⟩ = .more [t'])) ?_ ?_
 ·refine zQ 6 ?_;refine zI (fun h7 => ?_) fun h7 => ?_
  ·have hS : stepS p.code gs pls ⟨pc,at_,c⟩ = .found := by unfold stepS; simp only [hi]; rw [if_pos h7]
   refine zQ 3 ?_;refine EvO.hloadS (m := 10) hH rfl (ev rfl) (by exact at3) (by dsimp only [List.drop_succ_cons,List.drop_zero,List.take_succ_cons,List.take_zero,insC,intC,tryC,capsC] <;> rfl) rfl rfl (put_T rfl _) ?_;refine qS hH at2 fun st hH => ?_;dsimp only [u2,u1,u3,u4,setMany,u5,u6,D.cells,Nat.reduceAdd,insC,intC,tryC,capsC] at hH;refine zQ 2 ?_;refine EvC.ret ⟨rx,_,_,_,hH.resCellT rfl at2 rfl rfl,rfl,?_⟩;unfold stepPost; rw [hS];exact ⟨rfl,leftD,hH.drop 4⟩
  ·refine zQ 5 ?_;refine zI (fun h2 => ?_) fun h2 => ?_
   ·obtain ⟨_,⟨hx0,hx1⟩,hy0,hy1⟩ := (hcases.resolve_left h7).resolve_right (by omega);obtain ⟨xn,rfl⟩ := Int.eq_ofNat_of_zero_le hx0;obtain ⟨yn,rfl⟩ := Int.eq_ofNat_of_zero_le hy0;have hS : stepS p.code gs pls ⟨pc,at_,c⟩ = .more [⟨xn,at_,c⟩,⟨yn,at_,c⟩] := by unfold stepS; simp only [hi]; rw [if_neg h7,if_pos h2]; rfl
    refine zQ 12 ?_;refine EvO.hloadS (m := 10) hH rfl (ev rfl) (by exact at3) (by dsimp only [List.drop_succ_cons,List.drop_zero,List.take_succ_cons,List.take_zero,insC,intC,tryC,capsC] <;> rfl) rfl rfl (put_T rfl _) ?_;refine EvO.go (d := .agg (tryC ⟨yn,at_,c⟩)) (st1 := _) rfl rfl rfl (put_T rfl _) ?_;refine zQ 5 ?_;refine EvO.hloadS (m := 10) hH rfl (ev rfl) (by exact at3) (by dsimp only [List.drop_succ_cons,List.drop_zero,List.take_succ_cons,List.take_zero,insC,intC,tryC,capsC] <;> rfl) rfl rfl (put_T rfl _) ?_;refine EvO.go (d := .agg (tryC ⟨xn,at_,c⟩)) (st1 := _) rfl rfl rfl (put_T rfl _) ?_;refine qh (s := 12) (vs := [_,_]) hH fun k49 st hk49 hH => ?_;dsimp only [u2,u1,u3,u4,setMany,u5,u6,D.cells,Nat.reduceAdd,insC,intC,tryC,capsC] at hH;refine EvO.happend (s := 12) hH rfl (ev rfl) (ev rfl) (by exact at6) (by exact hH.rows (by exact at0)) rfl rfl rfl rfl rfl rfl rfl ⟨(Nat.le_of_ble_eq_true rfl),(Nat.le_of_ble_eq_true rfl)⟩ (fun _ => (put_T rfl _)) (by simp only [List.length_cons,List.length_nil,List.length_map,List.length_reverse] <;> omega) (by exact .inl hF) (fun x50 st hH => ?_);dsimp only [u2,u1,u3,u4,setMany,u5,u6,D.cells,Nat.reduceAdd,insC,intC,tryC,capsC] at hH;refine zQ 2 ?_;refine qT hH at5 (fun st hH => ?_) (hcs := hH.ocells at6);dsimp only [u2,u1,u3,u4,setMany,u5,u6,D.cells,Nat.reduceAdd,insC,intC,tryC,capsC] at hH;refine zQ 3 ?_;refine EvO.go (d := .agg (capsC zeroCaps)) (st1 := _) rfl rfl rfl (put_T rfl _) ?_;refine qS hH at3 fun st hH => ?_;dsimp only [u2,u1,u3,u4,setMany,u5,u6,D.cells,Nat.reduceAdd,insC,intC,tryC,capsC] at hH;refine zQ 2 ?_;refine EvC.ret ⟨rx,_,_,_,hH.resCellT rfl at3 rfl rfl,rfl,?_⟩;unfold stepPost; rw [hS];refine ⟨rfl,x50,?_⟩;have hrv : ((([⟨xn,at_,c⟩,⟨yn,at_,c⟩] : List Tr3) ++ stk).reverse.map tryC) = stk.reverse.map tryC ++ [tryC ⟨yn,at_,c⟩,tryC ⟨xn,at_,c⟩] := by simp
    rw [hrv];exact hH.drop 5
   ·refine zQ 5 ?_;refine zI (fun h3 => ?_) fun h3 => ?_
    ·obtain ⟨_,hx0,hx1⟩ := ((hcases.resolve_left h7).resolve_left (by omega)).resolve_right (by omega);obtain ⟨xn,rfl⟩ := Int.eq_ofNat_of_zero_le hx0;refine zQ 4 ?_;refine qT hH at0 fun st hH => ?_;dsimp only [u2,u1,u3,u4,setMany,u5,u6,D.cells,Nat.reduceAdd,insC,intC,tryC,capsC] at hH;refine zQ 1 ?_;exact ⟨⟨xn,at_,c⟩,_,rfl,hH,by unfold stepS; simp only [hi]; rw [if_neg h7,if_neg h2,if_pos h3]; rfl⟩
    ·refine zQ 5 ?_;refine zI (fun h4 => ?_) fun h4 => ?_
     ·obtain ⟨_,hpc1,hx0,hx1⟩ := (((hcases.resolve_left h7).resolve_left (by omega)).resolve_left (by omega)).resolve_right (by omega);obtain ⟨xn,rfl⟩ := Int.eq_ofNat_of_zero_le hx0
      obtain ⟨pv0,hpv⟩ : ∃ v,pls[at_]? = some v := ⟨pls[at_]'(by omega),List.getElem?_eq_getElem _⟩
      have hr1 := int_get hpv;refine zQ 9 ?_;refine qi hH at6 fun p69 hp69 => ?_;refine zQ 2 ?_;refine EvO.harr (m := 10) (s := 1) (i := xn) (o := 2 + xn) rfl (ev rfl) (ev rfl) rfl rfl (by omega) (by omega) (put_T rfl _) ?_;refine EvO.hstore hH rfl (ev rfl) (ev rfl) rfl (by exact rfl) at0 (by show 2 + xn + 1 <= 12; omega) (.inl hF) (fun st hH => ?_);change Has _ _ _ (.box k7 (.mem 0 false (setMany (_ :: _ :: capsC c) (2 + xn) [.int .i64 pv0])) :: _) at hH;rw [set_caps (by omega)] at hH;refine zQ 1 ?_;refine ⟨⟨pc + 1,at_,setC c xn pv0⟩,_,rfl,hH,by unfold stepS; simp only [hi]; rw [if_neg h7,if_neg h2,if_neg h3,if_pos h4]; simp [List.getD_eq_getElem?_getD,hpv]⟩
     ·refine zQ 5 ?_;refine zI (fun h5 => ?_) fun h5 => ?_
      ·refine zQ 6 ?_
       by_cases ha : at_ = 0
       ·subst ha;refine EvC.cond (v := false) (by dsimp only [Fr.ev,Fr.get,nth,V.look]; rfl) (fun h => by cases h) (fun _ => ?_);refine zQ 1 ?_;exact ⟨⟨pc + 1,0,c⟩,_,rfl,hH,by unfold stepS; simp only [hi]; rw [if_neg h7,if_neg h2,if_neg h3,if_neg h4,if_pos h5]; rfl⟩
       ·refine qD rfl (by simp; omega) ?_;refine zQ 2 ?_;refine EvO.go (d := .agg (capsC zeroCaps)) (st1 := _) rfl rfl rfl (put_T rfl _) ?_;refine qS hH at2 fun st hH => ?_;dsimp only [u2,u1,u3,u4,setMany,u5,u6,D.cells,Nat.reduceAdd,insC,intC,tryC,capsC] at hH;refine zQ 2 ?_;refine EvC.ret ⟨rx,_,_,_,hH.resCellT rfl at2 rfl rfl,rfl,?_⟩;have hS : stepS p.code gs pls ⟨pc,at_,c⟩ = .more [] := by unfold stepS; simp only [hi]; rw [if_neg h7,if_neg h2,if_neg h3,if_neg h4,if_pos h5,if_neg ha]
        unfold stepPost; rw [hS];exact ⟨rfl,leftD,hH.drop 4⟩
      ·refine zQ 5 ?_;refine zI (fun h6 => ?_) fun h6 => ?_
       ·refine zQ 8 ?_;refine qn ?_;simp only [List.length_map];refine zQ 2 ?_
        by_cases ha : at_ = gs.length
        ·refine qE rfl (by rw [ha]; simp) ?_;refine zQ 1 ?_;exact ⟨⟨pc + 1,at_,c⟩,_,rfl,hH,by unfold stepS; simp only [hi]; rw [if_neg h7,if_neg h2,if_neg h3,if_neg h4,if_neg h5,if_pos h6,if_pos ha]⟩
        ·refine qD rfl (by simp; omega) ?_;refine zQ 2 ?_;refine EvO.go (d := .agg (capsC zeroCaps)) (st1 := _) rfl rfl rfl (put_T rfl _) ?_;refine qS hH at2 fun st hH => ?_;dsimp only [u2,u1,u3,u4,setMany,u5,u6,D.cells,Nat.reduceAdd,insC,intC,tryC,capsC] at hH;refine zQ 2 ?_;refine EvC.ret ⟨rx,_,_,_,hH.resCellT rfl at2 rfl rfl,rfl,?_⟩;have hS : stepS p.code gs pls ⟨pc,at_,c⟩ = .more [] := by unfold stepS; simp only [hi]; rw [if_neg h7,if_neg h2,if_neg h3,if_neg h4,if_neg h5,if_pos h6,if_neg ha]
         unfold stepPost; rw [hS];exact ⟨rfl,leftD,hH.drop 4⟩
       ·have h1 : op = 1 := by omega
        refine zQ 5 ?_;refine qD rfl (by simp [h1]) ?_
        have hno : ∀ b,stepS p.code gs pls ⟨pc,at_,c⟩ = .more b ↔ (.more (if at_ < gs.length /\ hasS rs ((gs.getD at_ (0,0)).1 : Nat) = true then [⟨pc + 1,at_ + 1,c⟩] else []) : Res) = .more b := by
         intro b; unfold stepS; simp only [hi]; rw [if_neg h7,if_neg h2,if_neg h3,if_neg h4,if_neg h5,if_neg h6]
        by_cases ha : at_ < gs.length
        ·obtain ⟨g,hg⟩ : ∃ g,gs[at_]? = some g := ⟨gs[at_]'ha,List.getElem?_eq_getElem _⟩
         have hr1 : (gs.map gotC)[at_]? = some (gotC g) := by rw [List.getElem?_map,hg]; rfl
         have hgd : gs.getD at_ (0,0) = g := by rw [List.getD_eq_getElem?_getD,hg]; rfl
         have hg8 : decide ((at_ : Int) >= (gs.length : Nat)) = false := by rw [decide_eq_false]; simp; omega
         rw [hgd] at hno;refine zQ 2 ?_;refine EvC.cutT 114 (.bool (!hasS rs (g.1 : Nat))) [] ?_ (fun ff tmp htmp => ?_)
         ·refine zQ 6 ?_;refine qn ?_;simp only [List.length_map];refine zQ 10 ?_;refine qr (fun p109 hp109 => ?_) (hg := wi hg8);refine qf (fo := 0) (fun p110 hp110 => ?_) (hg := wi hg8);refine zQ 1 ?_;refine qv (has_ev (hra.rows hH) (by omega)) ?_ (hg := wi hg8);refine zQ 2 ?_;refine EvO.nil (leafT ?_ ?_)
          ·dsimp only [setW,List.foldl,nth,u2,u1]
           all_goals (first | rfl | simp)
          ·dsimp only [Fr.putO,Fr.put,Fr.clean,Fr.ev,Fr.get,nth,look,u1,u2,v1,v2,v4]
           all_goals (first | rfl | (simp [hg8]; done) | (simp_all; done) | (simp [hg8]; omega) | (simp_all; omega))
         dsimp only [setW,List.foldl,nth,u2,u1];refine EvC.cond (by assumption) (fun hh => ?_) (fun hh => ?_) <;> try simp only [Bool.not_eq_true',Bool.not_eq_false'] at hh
         ·refine zQ 2 ?_;refine EvO.go (d := .agg (capsC zeroCaps)) (st1 := _) rfl rfl rfl (put_T rfl _) ?_;refine qS hH at2 fun st hH => ?_;dsimp only [u2,u1,u3,u4,setMany,u5,u6,D.cells,Nat.reduceAdd,insC,intC,tryC,capsC] at hH;refine zQ 2 ?_;refine EvC.ret ⟨rx,_,_,_,hH.resCellT rfl at2 rfl rfl,rfl,?_⟩;have hS := (hno []).2 (by rw [if_neg (by rintro ⟨_,h⟩; rw [h] at hh; cases hh)]);unfold stepPost; rw [hS];exact ⟨rfl,leftD,hH.drop 4⟩
         ·refine zQ 6 ?_;refine qT hH at0 fun st hH => ?_;dsimp only [u2,u1,u3,u4,setMany,u5,u6,D.cells,Nat.reduceAdd,insC,intC,tryC,capsC] at hH;refine zQ 1 ?_;exact ⟨⟨pc + 1,at_ + 1,c⟩,_,rfl,hH,(hno _).2 (by rw [if_pos ⟨ha,by simpa using hh⟩])⟩
        ·have hg8 : decide ((at_ : Int) >= (gs.length : Nat)) = true := by rw [decide_eq_true]; simp; omega
         refine zQ 2 ?_;refine EvC.cutT 114 (.bool true) [] ?_ (fun ff tmp htmp => ?_)
         ·refine zQ 6 ?_;refine qn ?_;simp only [List.length_map];refine zQ 16 ?_;refine EvO.nil (leafT ?_ ?_)
          ·dsimp only [setW,List.foldl,nth,u2,u1]
           all_goals (first | rfl | simp)
          ·dsimp only [Fr.putO,Fr.put,Fr.clean,Fr.ev,Fr.get,nth,look,u1,u2,v1,v2,v4]
           all_goals (first | rfl | (simp [hg8]; done) | (simp_all; done) | (simp [hg8]; omega) | (simp_all; omega))
         dsimp only [setW,List.foldl,nth,u2,u1];refine zQ 3 ?_;refine EvO.go (d := .agg (capsC zeroCaps)) (st1 := _) rfl rfl rfl (put_T rfl _) ?_;refine qS hH at2 fun st hH => ?_;dsimp only [u2,u1,u3,u4,setMany,u5,u6,D.cells,Nat.reduceAdd,insC,intC,tryC,capsC] at hH;refine zQ 2 ?_;refine EvC.ret ⟨rx,_,_,_,hH.resCellT rfl at2 rfl rfl,rfl,?_⟩;have hS := (hno []).2 (by rw [if_neg (fun h => ha h.1)]);unfold stepPost; rw [hS];exact ⟨rfl,leftD,hH.drop 4⟩
 ·rintro fr st ⟨t',tmp,hfr,hH,hS⟩;rw [hfr];clear hfr;generalize ixF_Ba fr = ee;clear fr;obtain ⟨pc',at',c'⟩ := t';dsimp only [tryC,capsC] at hH;refine zQ 7 ?_;refine EvO.hloadS (m := 12) hH rfl (ev rfl) (by exact at0) (by dsimp only [List.drop_succ_cons,List.drop_zero,List.take_succ_cons,List.take_zero,insC,intC,tryC,capsC] <;> rfl) rfl rfl (put_T rfl _) ?_;refine qh (s := 12) (vs := [_]) hH fun k126 st hk126 hH => ?_;refine EvO.happend (s := 12) hH rfl (ev rfl) (ev rfl) (by exact at6) (by exact hH.rows (by exact at0)) rfl rfl rfl rfl rfl rfl rfl ⟨(Nat.le_of_ble_eq_true rfl),(Nat.le_of_ble_eq_true rfl)⟩ (fun _ => (put_T rfl _)) (by simp only [List.length_cons,List.length_nil,List.length_map,List.length_reverse] <;> omega) (by exact .inl hF) (fun x127 st hH => ?_);dsimp only [u2,u1,u3,u4,setMany,u5,u6,D.cells,Nat.reduceAdd,insC,intC,tryC,capsC] at hH;refine zQ 2 ?_;refine qT hH at5 (fun st hH => ?_) (hcs := hH.ocells at6);dsimp only [u2,u1,u3,u4,setMany,u5,u6,D.cells,Nat.reduceAdd,insC,intC,tryC,capsC] at hH;refine zQ 3 ?_;refine EvO.go (d := .agg (capsC zeroCaps)) (st1 := _) rfl rfl rfl (put_T rfl _) ?_;refine qS hH at3 fun st hH => ?_;dsimp only [u2,u1,u3,u4,setMany,u5,u6,D.cells,Nat.reduceAdd,insC,intC,tryC,capsC] at hH;refine zQ 2 ?_;refine EvC.ret ⟨rx,_,_,_,hH.resCellT rfl at3 rfl rfl,rfl,?_⟩;unfold stepPost; rw [hS];refine ⟨rfl,x127,?_⟩;have hrv : ((([⟨pc',at',c'⟩] : List Tr3) ++ stk).reverse.map tryC) = stk.reverse.map tryC ++ [tryC ⟨pc',at',c'⟩] := by simp
  rw [hrv];exact hH.drop 5
def ixF_Bb (fr : Go.V.Fr) (k : Nat) : Go.V.D := Go.V.nth .junk fr.loc k
def dfsF (idx : Nat -> Nat -> Nat) (stp : Tr3 -> Res) : Nat -> List Bool -> List Tr3 -> Option Cps × List Bool
 | 0,arr,_ => (none,arr)
 | _ + 1,arr, [] => (none,arr)
 | f + 1,arr,t :: stk => match arr[idx t.pc t.at_]? with
  | some false => match stp t with
   | .found => (some t.c,arr.set (idx t.pc t.at_) true)
   | .more l => dfsF idx stp f (arr.set (idx t.pc t.at_) true) (l ++ stk)
  | _ => dfsF idx stp f arr stk
theorem step_len (code : List PIns) (gs : List (Nat × Nat)) (pl : List Int) (t : Tr3) : ∀ l,stepS code gs pl t = .more l -> l.length <= 2 := by
 intro l h;unfold stepS at h
 split at h
 ·cases h; simp
 ·repeat' split at h
  all_goals (first | (cases h; done) | (cases h; simp; done) | (cases h; split <;> simp))
def okT (p : Pg) (gs : List (Nat × Nat)) (t : Tr3) : Prop := t.pc < p.code.length /\ t.at_ <= gs.length
theorem step_ok {p : Pg} {gs : List (Nat × Nat)} {pl : List Int} (hR : RightQ p) {t : Tr3} (ht : okT p gs t) : ∀ l,stepS p.code gs pl t = .more l -> ∀ u ∈ l,okT p gs u := by
 intro l h u hu;obtain ⟨h1,h2⟩ := ht
 obtain ⟨i,hi⟩ : ∃ i,p.code[t.pc]? = some i := ⟨p.code[t.pc]'h1,List.getElem?_eq_getElem _⟩
 have hc := shaped_cases (hR.sh t.pc i hi);unfold stepS at h;rw [hi] at h;simp only at h
 split at h
 ·cases h
 ·split at h
  ·cases h;simp only [List.mem_cons,List.not_mem_nil,or_false] at hu
   rcases hu with rfl | rfl
   ·exact ⟨by show i.x.toNat < _; omega,h2⟩
   ·exact ⟨by show i.y.toNat < _; omega,h2⟩
  ·split at h
   ·cases h;simp only [List.mem_cons,List.not_mem_nil,or_false] at hu;subst hu;exact ⟨by show i.x.toNat < _; omega,h2⟩
   ·split at h
    ·cases h;simp only [List.mem_cons,List.not_mem_nil,or_false] at hu;subst hu;exact ⟨by show t.pc + 1 < _; omega,h2⟩
    ·split at h
     ·cases h
      split at hu
      ·simp only [List.mem_cons,List.not_mem_nil,or_false] at hu;subst hu;exact ⟨by show t.pc + 1 < _; omega,h2⟩
      ·cases hu
     ·split at h
      ·cases h
       split at hu
       ·simp only [List.mem_cons,List.not_mem_nil,or_false] at hu;subst hu;exact ⟨by show t.pc + 1 < _; omega,h2⟩
       ·cases hu
      ·cases h
       split at hu
       ·rename_i h8;simp only [List.mem_cons,List.not_mem_nil,or_false] at hu;subst hu;exact ⟨by show t.pc + 1 < _; omega,by show t.at_ + 1 <= _; omega⟩
       ·cases hu
theorem try_last (v : Tr3) (r : List Tr3) : ((v :: r).reverse.map tryC)[r.length]? = some (tryC v) := by
 rw [List.getElem?_map,List.reverse_cons,List.getElem?_append_right (by simp)]; simp
theorem try_pop (v : Tr3) (r : List Tr3) : (((v :: r).reverse.map tryC).take r.length).drop 0 = r.reverse.map tryC := by
 rw [List.reverse_cons,List.map_append,List.drop_zero,List.take_left' (by simp)]
def outC (r : Option Cps) : D := match r with
 | some c => .tup [.agg (capsC c), .bool true]
 | none => .tup [.agg (capsC zeroCaps), .bool false]
def idxP (n : Nat) (pc at_ : Nat) : Nat := at_ * n + pc
theorem from3_ev {N : Nat} {S st : St} {H : List Ent} {k : Nat} {p : Pg} {gs : List (Nat × Nat)} {plD seenD leftD : D} {pls : List Int} {old : List (List D)} {arr : List Bool} {start i : Nat} (hF : S.flr <= N) (hp : p.ok) (hR : RightQ p) (hgl : gs.length <= 1048576) (hpl : pls.length = gs.length + 1) (hsz : (gs.length + 1) * p.code.length <= 134217728) (hal : arr.length = (gs.length + 1) * p.code.length) (hst : start < p.code.length) (hi : i <= gs.length)
  (hH : Has N S st (.box k (.mem 0 false [p.cd,p.sd,gotsD gs,plD,seenD,leftD]) :: .lst leftD 12 old :: .lst plD 1 (pls.map intC) :: .lst seenD 1 (arr.map boolC) :: H)) :
  ∃ d st',Ev pv 13 [.ptr k 0 0, .int .i64 (start : Nat), .int .i64 (i : Nat)] st d st' /\ ∃ leftD' old',d = outC (dfsF (idxP p.code.length) (stepS p.code gs pls) (3 * arr.length + 1) arr [⟨start,i,noCaps⟩]).1 /\
   Has N S st' (.box k (.mem 0 false [p.cd,p.sd,gotsD gs,plD,seenD,leftD']) :: .lst leftD' 12 old' :: .lst plD 1 (pls.map intC) :: .lst seenD 1 ((dfsF (idxP p.code.length) (stepS p.code gs pls) (3 * arr.length + 1) arr [⟨start,i,noCaps⟩]).2.map boolC) :: H) := by
 have hlen := hp.cl
 obtain ⟨R,hR0⟩ : ∃ R,dfsF (idxP p.code.length) (stepS p.code gs pls) (3 * arr.length + 1) arr [⟨start,i,noCaps⟩] = R := ⟨_,rfl⟩
 rw [hR0];have hcl0 := List.count_le_length (a := false) (l := arr);refine Ev.mkE rfl fi13 rfl rfl rfl ?_;refine zE ?_;change EvC _ _ _ _ st _;refine zQ 2 ?_;refine qa hH fun k6 st hk6 hH => ?_;refine zQ 9 ?_;refine EvO.oslice hH rfl (ev rfl) (by exact at2) rfl rfl (bounds_to (n := 0) (by omega)) ⟨by omega,by omega⟩ (fun _ => (put_T rfl _)) (fun y17 hH => ?_);dsimp only [u1,u2,List.take_zero] at hH;rw [List.drop_nil] at hH;refine zQ 2 ?_;refine qv (Ev.prim rfl rfl) ?_;refine EvO.go (d := .agg (tryC ⟨start,i,noCaps⟩)) (st1 := _) rfl rfl rfl (put_T rfl _) ?_;refine qh (s := 12) (vs := [_]) hH fun k22 st hk22 hH => ?_;dsimp only [u2,u1,u3,u4,setMany,u5,u6,D.cells,Nat.reduceAdd,insC,intC,boolC,tryC,capsC,noCaps,zeroCaps] at hH;refine EvO.happend (s := 12) hH rfl (ev rfl) (ev rfl) (by exact at3) (by exact hH.rows (by exact at0)) rfl rfl rfl rfl rfl rfl rfl ⟨(Nat.le_of_ble_eq_true rfl),(Nat.le_of_ble_eq_true rfl)⟩ (fun _ => (put_T rfl _)) (by simp only [List.length_cons,List.length_nil,List.length_map] <;> omega) (by exact .inl hF) (fun x23 st hH => ?_);dsimp only [u2,u1,u3,u4,setMany,u5,u6,D.cells,Nat.reduceAdd,insC,intC,boolC,tryC,capsC,noCaps,zeroCaps] at hH;refine zQ 2 ?_;refine qT hH at2 (fun st hH => ?_) (hcs := hH.ocells at3);dsimp only [u2,u1,u3,u4,setMany,u5,u6,D.cells,Nat.reduceAdd,insC,intC,boolC,tryC,capsC,noCaps,zeroCaps] at hH;refine zQ 3 ?_;refine EvC.loop (fun mm fr st => ∃ (ld : D) (ar : List Bool) (stk : List Tr3),fr.clean = ⟨12, [.ptr k 0 0,ixF_Bb fr 1,ixF_Bb fr 2,ixF_Bb fr 3,ixF_Bb fr 4,ixF_Bb fr 5, .ptr k6 0 0, .bool false,ixF_Bb fr 8,ixF_Bb fr 9,ixF_Bb fr 10,ixF_Bb fr 11], []⟩ /\ Has N S st (.box k6 (.mem 0 false (capsC zeroCaps)) :: .box k (.mem 0 false [p.cd,p.sd,gotsD gs,plD,seenD,ld]) :: .lst ld 12 (stk.reverse.map tryC) :: .lst plD 1 (pls.map intC) :: .lst seenD 1 (ar.map boolC) :: H) /\ (dfsF (idxP p.code.length) (stepS p.code gs pls) mm ar stk = R) /\ (3 * ar.count false + stk.length <= mm) /\ (ar.length = (gs.length + 1) * p.code.length) /\ (∀ v ∈ stk,okT p gs v) /\ (mm <= 3 * arr.length + 1)) (3 * arr.length + 1) ?_ ?_
 ·exact ⟨_,arr, [⟨start,i,noCaps⟩],rfl,(by exact hH.drop 1),hR0,(by simp only [List.length_cons,List.length_nil]; omega),hal,(by intro v hv; simp only [List.mem_cons,List.not_mem_nil,or_false] at hv; subst hv; exact ⟨hst,hi⟩),Nat.le_refl _⟩
 rintro mm fr st ⟨ld,ar,stk,hfr,hH,hd,hm,hal,hsk,hmm⟩;rw [hfr];clear hfr;generalize ixF_Bb fr = ee;clear fr
 rcases stk with _ | ⟨v,stk⟩
 ·refine zQ 7 ?_;refine qn ?_ (hR := hH.rows at2);simp only [List.length_map,List.length_nil,List.length_reverse];refine zQ 2 ?_;refine EvC.cond (v := false) (by dsimp only [Fr.ev,Fr.get,nth,V.look]; rfl) (fun h => by cases h) (fun _ => ?_);refine zQ 3 ?_;refine EvO.go (d := .agg (capsC zeroCaps)) (st1 := _) rfl rfl rfl (put_T rfl _) ?_;refine qS hH at0 fun st hH => ?_;dsimp only [u2,u1,u3,u4,setMany,u5,u6,D.cells,Nat.reduceAdd,insC,intC,boolC,tryC,capsC,noCaps,zeroCaps] at hH;refine zQ 2 ?_;have hfin : R = (none,ar) := by rw [<- hd]; cases mm <;> rfl
  refine EvC.ret ⟨rx,_,_,_,hH.resCellT rfl at0 rfl rfl,rfl,?_⟩;rw [hfin];exact ⟨_,_,rfl,hH.drop 1⟩
 ·have hv := hsk v (List.mem_cons_self ..);obtain ⟨hv1,hv2⟩ := hv;have hst : ∀ w ∈ stk,okT p gs w := fun w hw => hsk w (List.mem_cons_of_mem _ hw);simp only [List.length_cons] at hm
  obtain ⟨mm,rfl⟩ : ∃ m',mm = m' + 1 := ⟨mm - 1,by omega⟩
  have hbd : v.at_ * p.code.length + v.pc < ar.length := by
   have h1 : (v.at_ + 1) * p.code.length <= (gs.length + 1) * p.code.length := Nat.mul_le_mul_right _ (by omega);rw [Nat.add_mul,Nat.one_mul] at h1;omega
  obtain ⟨b,hb⟩ : ∃ b,ar[idxP p.code.length v.pc v.at_]? = some b := ⟨ar[idxP p.code.length v.pc v.at_]'hbd,List.getElem?_eq_getElem _⟩
  obtain ⟨ii,hii⟩ : ∃ x,p.code[v.pc]? = some x := ⟨p.code[v.pc]'hv1,List.getElem?_eq_getElem _⟩
  have hsok := fun l => step_ok (pl := pls) hR (t := v) ⟨hv1,hv2⟩ l;have hsln := step_len p.code gs pls v;have hr1 := try_last v stk;have hr2 := bool_get hb
  obtain ⟨m,hm0⟩ : ∃ m,v.at_ * p.code.length = m := ⟨_,rfl⟩
  have hix : idxP p.code.length v.pc v.at_ = m + v.pc := by unfold idxP; rw [hm0]
  rw [hm0] at hbd;rw [hix] at hr2;have hca := hp.c.arg N S;refine zQ 7 ?_;refine qn ?_ (hR := hH.rows at2);simp only [List.length_map,List.length_cons,List.length_reverse];refine zQ 2 ?_;refine qD rfl (by simp) ?_;refine zQ 12 ?_;refine qn ?_ (hR := hH.rows at2);simp only [List.length_map,List.length_cons,List.length_reverse];refine EvO.subZ (z := ((stk.length : Nat) : Int)) rfl (ev rfl) (ev rfl) (by (try simp only [List.length_reverse,List.length_cons,List.length_nil,List.length_append,List.length_map,List.length_set]); rw [wrap_i64 (by omega) (by omega)] <;> omega) (put_T rfl _) ?_;refine qi hH at2 fun p42 hp42 => ?_;refine EvO.oloadS hH rfl (ev rfl) (by assumption) (by exact at2) (by assumption) rfl (put_T rfl _) ?_;refine qa hH fun k8 st hk8 hH => ?_;dsimp only [u2,u1,u3,u4,setMany,u5,u6,D.cells,Nat.reduceAdd,insC,intC,boolC,tryC,capsC,noCaps,zeroCaps] at hH;refine qS hH at0 fun st hH => ?_;dsimp only [u2,u1,u3,u4,setMany,u5,u6,D.cells,Nat.reduceAdd,insC,intC,boolC,tryC,capsC,noCaps,zeroCaps] at hH;refine zQ 12 ?_;refine qn ?_ (hR := hH.rows at3);simp only [List.length_map,List.length_cons,List.length_reverse];refine EvO.subZ (z := ((stk.length : Nat) : Int)) rfl (ev rfl) (ev rfl) (by (try simp only [List.length_reverse,List.length_cons,List.length_nil,List.length_append,List.length_map,List.length_set]); rw [wrap_i64 (by omega) (by omega)] <;> omega) (put_T rfl _) ?_;refine EvO.oslice hH rfl (ev rfl) (by exact at3) rfl rfl (bounds_to (by simp only [List.length_map,List.length_reverse,List.length_cons,List.length_append,List.length_nil,List.length_take,List.length_drop,List.length_set,List.length_replicate]; omega)) ⟨(by omega),(by simp only [List.length_map,List.length_reverse,List.length_cons,List.length_append,List.length_nil,List.length_take,List.length_drop,List.length_set,List.length_replicate]; omega)⟩ (fun _ => (put_T rfl _)) (fun y55 hH => ?_);refine zQ 2 ?_;refine qT hH at2 (fun st hH => ?_) (hcs := hH.ocells at3);dsimp only [u2,u1,u3,u4,setMany,u5,u6,D.cells,Nat.reduceAdd,insC,intC,boolC,tryC,capsC,noCaps,zeroCaps] at hH;refine zQ 1 ?_;rw [try_pop] at hH;refine zQ 9 ?_;refine qn ?_;simp only [List.length_map];refine EvO.mulZ (z := ((m : Nat) : Int)) rfl (ev rfl) (ev rfl) (by rw [<- Int.natCast_mul,hm0]; exact wrap_nat (by simp only [maxN]; omega)) (put_T rfl _) ?_;refine zQ 2 ?_;refine EvO.addN rfl (ev rfl) (ev rfl) (by omega) (put_T rfl _) ?_;refine zQ 10 ?_;refine qi hH at5 fun p75 hp75 => ?_;refine zQ 2 ?_
  cases b with
  | true =>
   refine zQ 2 ?_;simp only [dfsF,hb] at hd;exact ⟨mm,by omega,⟨_,ar,stk,rfl,(hH.drop 1),hd,by omega,hal,hst,by omega⟩⟩
  | false =>
   have hcnt := count_set hb;have hset : (ar.set (idxP p.code.length v.pc v.at_) true).map boolC = (ar.map boolC).set (m + v.pc) [.bool true] := by rw [List.map_set,hix]; rfl
   simp only [dfsF,hb] at hd;refine zQ 9 ?_;refine qi hH at5 fun p82 hp82 => ?_;refine EvO.ostore hH rfl (ev rfl) (ev rfl) (by assumption) rfl rfl (by exact at5) (by assumption) (Nat.le_of_ble_eq_true rfl) (by exact .inl hF) (fun st hH => ?_);dsimp only [u2,u1,u3,u4,setMany,u5,u6,D.cells,Nat.reduceAdd,insC,intC,boolC,tryC,capsC,noCaps,zeroCaps] at hH;refine zQ 1 ?_
   have hH3 : Has N S st (.box k (.mem 0 false [p.cd,p.sd,gotsD gs,plD,seenD,y55]) :: .lst y55 12 (stk.reverse.map tryC) :: .lst plD 1 (pls.map intC) :: .box k6 (.mem 0 false (capsC zeroCaps)) :: .lst seenD 1 ((ar.map boolC).set (m + v.pc) [.bool true]) :: H) :=
    (((hH.drop 1).front (j := 3) rfl).front (j := 3) rfl).front (j := 3) rfl
   obtain ⟨d,st1,hev,hpost⟩ := step_ev hF hp hii (hR.sh v.pc ii hii) hgl hv2 hpl (by omega) hH3;unfold stepPost at hpost
   cases hS : stepS p.code gs pls v with
   | found =>
    rw [hS] at hpost hd;simp only at hpost hd;obtain ⟨rfl,ld',hH4⟩ := hpost;have hH4 := hH4.front (j := 3) rfl;refine zQ 3 ?_;refine EvO.hloadS (m := 12) hH rfl (ev rfl) (by exact at0) (by dsimp only [List.drop_succ_cons,List.drop_zero,List.take_succ_cons,List.take_zero,insC,intC,boolC,tryC,capsC,noCaps,zeroCaps] <;> rfl) rfl rfl (put_T rfl _) ?_;refine qv (hev) ?_;refine zQ 3 ?_;refine EvO.halloc hH4 rfl rfl (fun _ => by dsimp only [Fr.put,u1,u2] <;> rfl) (fun k10 st hk10 hH => ?_);dsimp only [capsC,zeroCaps] at hH;refine qT hH at0 fun st hH => ?_;dsimp only [u2,u1,u3,u4,setMany,u5,u6,D.cells,Nat.reduceAdd,insC,intC,boolC,tryC,capsC,noCaps,zeroCaps] at hH;refine zQ 9 ?_;refine EvO.hloadS (m := 10) hH rfl (ev rfl) (by exact at0) (by dsimp only [List.drop_succ_cons,List.drop_zero,List.take_succ_cons,List.take_zero,insC,intC,boolC,tryC,capsC,noCaps,zeroCaps] <;> rfl) rfl rfl (put_T rfl _) ?_;refine qS hH at1 fun st hH => ?_;dsimp only [u2,u1,u3,u4,setMany,u5,u6,D.cells,Nat.reduceAdd,insC,intC,boolC,tryC,capsC,noCaps,zeroCaps] at hH;refine zQ 2 ?_;refine EvC.ret ⟨rx,_,_,_,hH.resCellT rfl at1 rfl rfl,rfl,?_⟩;rw [<- hd];exact ⟨_,_,rfl,(by rw [hset]; exact hH.drop 2)⟩
   | more l =>
    rw [hS] at hpost hd;simp only at hpost hd;obtain ⟨rfl,ld',hH4⟩ := hpost;have hH4 := hH4.front (j := 3) rfl;have hl2 := hsln l hS;refine zQ 3 ?_;refine EvO.hloadS (m := 12) hH rfl (ev rfl) (by exact at0) (by dsimp only [List.drop_succ_cons,List.drop_zero,List.take_succ_cons,List.take_zero,insC,intC,boolC,tryC,capsC,noCaps,zeroCaps] <;> rfl) rfl rfl (put_T rfl _) ?_;refine qv (hev) ?_;refine zQ 3 ?_;refine EvO.halloc hH4 rfl rfl (fun _ => by dsimp only [Fr.put,u1,u2] <;> rfl) (fun k10 st hk10 hH => ?_);dsimp only [capsC,zeroCaps] at hH;refine qT hH at0 fun st hH => ?_;dsimp only [u2,u1,u3,u4,setMany,u5,u6,D.cells,Nat.reduceAdd,insC,intC,boolC,tryC,capsC,noCaps,zeroCaps] at hH;refine zQ 8 ?_;refine ⟨mm,by omega,⟨_,ar.set (idxP p.code.length v.pc v.at_) true,l ++ stk,rfl,(by rw [hset]; exact hH.drop 1),hd,by simp only [List.length_append]; omega,by rw [List.length_set]; exact hal,?_,by omega⟩⟩;intro w hw
    rcases List.mem_append.1 hw with hw | hw
    ·exact hsok l hS w hw
    ·exact hst w hw
end Go.Proofs.Ytapfahlbkhgdpaa
