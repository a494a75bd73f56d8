/- own -/
import Derived.Test.YtapfahlbkhgdpaaTGHr
import Derived.Test.YtapfahlbkhgdpaaTPx
import Derived.Test.YtapfahlbkhgdpaaTM2
import Derived.KernelRfl
set_option linter.unusedSimpArgs false
set_option linter.unusedVariables false
set_option maxRecDepth 100000
set_option maxHeartbeats 4000000
namespace Go.V
abbrev Rg := Int × Int
def memR (l : List Rg) (r : Int) : Prop := ∃ x,x ∈ l /\ x.1 <= r /\ r <= x.2
theorem memR_nil (r : Int) : ¬ memR [] r := by rintro ⟨x,h,_⟩; cases h
theorem memR_cons {x : Rg} {l : List Rg} {r : Int} : memR (x :: l) r ↔ (x.1 <= r /\ r <= x.2) \/ memR l r := by
  constructor
  · rintro ⟨y,hy,h⟩
    rcases List.mem_cons.1 hy with rfl | hy
    · exact .inl h
    · exact .inr ⟨y,hy,h⟩
  · rintro (h | ⟨y,hy,h⟩)
    · exact ⟨x,List.mem_cons_self ..,h⟩
    · exact ⟨y,List.mem_cons_of_mem _ hy,h⟩
theorem memR_append {a b : List Rg} {r : Int} : memR (a ++ b) r ↔ memR a r \/ memR b r := by
  constructor
  · rintro ⟨y,hy,h⟩
    rcases List.mem_append.1 hy with hy | hy
    · exact .inl ⟨y,hy,h⟩
    · exact .inr ⟨y,hy,h⟩
  · rintro (⟨y,hy,h⟩ | ⟨y,hy,h⟩)
    · exact ⟨y,List.mem_append_left _ hy,h⟩
    · exact ⟨y,List.mem_append_right _ hy,h⟩
theorem memR_same {a b : List Rg} (h : ∀ x,x ∈ a ↔ x ∈ b) (r : Int) : memR a r ↔ memR b r := by
  constructor
  · rintro ⟨y,hy,hh⟩; exact ⟨y,(h y).1 hy,hh⟩
  · rintro ⟨y,hy,hh⟩; exact ⟨y,(h y).2 hy,hh⟩
def canon (l : List Rg) : Prop := (∀ x ∈ l,x.1 <= x.2) /\ l.Pairwise fun x y => x.2 + 1 < y.1
theorem canon_tail {x : Rg} {l : List Rg} (h : canon (x :: l)) : canon l /\ x.1 <= x.2 /\ ∀ r,memR l r -> x.2 + 1 < r := by
  obtain ⟨h1,h2⟩ := h
  rw [List.pairwise_cons] at h2
  refine ⟨⟨fun y hy => h1 y (List.mem_cons_of_mem _ hy),h2.2⟩,h1 x (List.mem_cons_self ..),?_⟩
  rintro r ⟨y,hy,h3,h4⟩
  have := h2.1 y hy
  omega
theorem canon_unique : ∀ {a b : List Rg},canon a -> canon b -> (∀ r,memR a r ↔ memR b r) -> a = b
  | [], [],_,_,_ => rfl
  | [],y :: b,_,hb,h => by
    obtain ⟨_,h1,_⟩ := canon_tail hb
    exact absurd ((h y.1).2 (memR_cons.2 (.inl ⟨Int.le_refl _,h1⟩))) (memR_nil _)
  | x :: a, [],ha,_,h => by
    obtain ⟨_,h1,_⟩ := canon_tail ha
    exact absurd ((h x.1).1 (memR_cons.2 (.inl ⟨Int.le_refl _,h1⟩))) (memR_nil _)
  | x :: a,y :: b,ha,hb,h => by
    obtain ⟨ca,xa,fa⟩ := canon_tail ha
    obtain ⟨cb,yb,fb⟩ := canon_tail hb
    have low : ∀ {x y : Rg} {a b : List Rg},x.1 <= x.2 -> (∀ r,memR b r -> y.2 + 1 < r) -> y.1 <= y.2 -> (∀ r,memR (x :: a) r -> memR (y :: b) r) -> y.1 <= x.1 := by
      intro x y a b hx hf hy hh
      rcases memR_cons.1 (hh x.1 (memR_cons.2 (.inl ⟨Int.le_refl _,hx⟩))) with h | h
      · exact h.1
      · have := hf _ h; omega
    have e1 : x.1 = y.1 := Int.le_antisymm (low yb fa xa fun r => (h r).2) (low xa fb yb fun r => (h r).1)
    have up : ∀ {x y : Rg} {a b : List Rg},x.1 <= x.2 -> x.1 = y.1 -> (∀ r,memR a r -> x.2 + 1 < r) -> (∀ r,memR (y :: b) r -> memR (x :: a) r) -> y.2 <= x.2 := by
      intro x y a b hx he hf hh
      rcases Int.lt_or_le x.2 y.2 with h' | h'
      · rcases memR_cons.1 (hh (x.2 + 1) (memR_cons.2 (.inl ⟨by omega,by omega⟩))) with h | h
        · omega
        · have := hf _ h; omega
      · exact h'
    have e2 : x.2 = y.2 := Int.le_antisymm (up yb e1.symm fb fun r => (h r).1) (up xa e1 fa fun r => (h r).2)
    have e : x = y := Prod.ext e1 e2
    subst e
    congr 1
    refine canon_unique ca cb fun r => ⟨fun hr => ?_,fun hr => ?_⟩
    · have := fa r hr
      rcases memR_cons.1 ((h r).1 (memR_cons.2 (.inr hr))) with h | h
      · omega
      · exact h
    · have := fb r hr
      rcases memR_cons.1 ((h r).2 (memR_cons.2 (.inr hr))) with h | h
      · omega
      · exact h
def joinR (acc : List Rg) (r : Rg) : List Rg :=
  match acc with
  | [] => [r]
  | k :: rest => if r.1 <= k.2 + 1 then (k.1,max k.2 r.2) :: rest else r :: k :: rest
theorem joinR_ok : ∀ (l acc : List Rg),(∀ x ∈ l,x.1 <= x.2) -> l.Pairwise (fun x y => x.1 <= y.1) -> (∀ k ∈ acc.head?, ∀ x ∈ l,k.1 <= x.1) -> (∀ x ∈ acc,x.1 <= x.2) -> acc.Pairwise (fun x y => y.2 + 1 < x.1) ->
    (∀ x ∈ l.foldl joinR acc,x.1 <= x.2) /\ (l.foldl joinR acc).Pairwise (fun x y => y.2 + 1 < x.1) /\ ∀ r,memR (l.foldl joinR acc) r ↔ memR acc r \/ memR l r
  | [],acc,_,_,_,h1,h2 => ⟨h1,h2,fun r => ⟨.inl,fun h => h.resolve_right (memR_nil r)⟩⟩
  | x :: l,acc,hl,hp,hk,h1,h2 => by
    rw [List.pairwise_cons] at hp
    have hx := hl x (List.mem_cons_self ..)
    have hl' : ∀ y ∈ l,y.1 <= y.2 := fun y hy => hl y (List.mem_cons_of_mem _ hy)
    rw [List.foldl_cons]
    cases acc with
    | nil =>
      obtain ⟨g1,g2,g3⟩ := joinR_ok l [x] hl' hp.2 (fun k hk' y hy => by simp at hk'; subst hk'; exact hp.1 y hy) (fun y hy => by simp at hy; subst hy; exact hx) (by simp)
      refine ⟨g1,g2,fun r => (g3 r).trans ?_⟩
      rw [memR_cons (l := l),memR_cons (l := [])]
      constructor
      · rintro ((h | h) | h)
        · exact .inr (.inl h)
        · exact absurd h (memR_nil r)
        · exact .inr (.inr h)
      · rintro (h | h | h)
        · exact absurd h (memR_nil r)
        · exact .inl (.inl h)
        · exact .inr h
    | cons k rest =>
      have hkx := hk k rfl x (List.mem_cons_self ..)
      have hkk := h1 k (List.mem_cons_self ..)
      rw [List.pairwise_cons] at h2
      unfold joinR
      by_cases hc : x.1 <= k.2 + 1
      · simp only [if_pos hc]
        obtain ⟨g1,g2,g3⟩ := joinR_ok l ((k.1,max k.2 x.2) :: rest) hl' hp.2 (fun q hq y hy => by simp at hq; subst hq; have := hp.1 y hy; simp only; omega) (fun y hy => by
          rcases List.mem_cons.1 hy with rfl | hy
          · simp only; omega
          · exact h1 y (List.mem_cons_of_mem _ hy)) (by rw [List.pairwise_cons]; exact ⟨h2.1,h2.2⟩)
        refine ⟨g1,g2,fun r => (g3 r).trans ?_⟩
        rw [memR_cons (l := rest),memR_cons (l := rest),memR_cons (l := l)]
        constructor
        · rintro ((h | h) | h)
          · simp only at h
            by_cases hr : r <= k.2
            · exact .inl (.inl ⟨h.1,hr⟩)
            · exact .inr (.inl ⟨by omega,by omega⟩)
          · exact .inl (.inr h)
          · exact .inr (.inr h)
        · rintro ((h | h) | h | h)
          · exact .inl (.inl ⟨h.1,by simp only; omega⟩)
          · exact .inl (.inr h)
          · exact .inl (.inl ⟨by simp only; omega,by simp only; omega⟩)
          · exact .inr h
      · simp only [if_neg hc]
        obtain ⟨g1,g2,g3⟩ := joinR_ok l (x :: k :: rest) hl' hp.2 (fun q hq y hy => by simp at hq; subst hq; exact hp.1 y hy) (fun y hy => by
          rcases List.mem_cons.1 hy with rfl | hy
          · exact hx
          · exact h1 y hy) (by
          rw [List.pairwise_cons]
          refine ⟨fun y hy => ?_,by rw [List.pairwise_cons]; exact h2⟩
          rcases List.mem_cons.1 hy with rfl | hy
          · omega
          · have := h2.1 y hy; omega)
        refine ⟨g1,g2,fun r => (g3 r).trans ?_⟩
        rw [memR_cons (l := k :: rest),memR_cons (l := l)]
        constructor
        · rintro ((h | h) | h)
          · exact .inr (.inl h)
          · exact .inl h
          · exact .inr (.inr h)
        · rintro (h | h | h)
          · exact .inl (.inr h)
          · exact .inl (.inl h)
          · exact .inr h
theorem join_canon {l : List Rg} (h1 : ∀ x ∈ l,x.1 <= x.2) (h2 : l.Pairwise fun x y => x.1 <= y.1) : canon (l.foldl joinR []).reverse /\ ∀ r,memR (l.foldl joinR []).reverse r ↔ memR l r := by
  obtain ⟨g1,g2,g3⟩ := joinR_ok l [] h1 h2 (fun k hk => by simp at hk) (fun x hx => by simp at hx) List.Pairwise.nil
  refine ⟨⟨fun x hx => g1 x (List.mem_reverse.1 hx),by rw [List.pairwise_reverse]; exact g2⟩,fun r => ?_⟩
  rw [memR_same (fun x => List.mem_reverse) r,g3 r]
  exact ⟨fun h => h.resolve_left (memR_nil r), .inr⟩
def isRune (r : Int) : Prop := 0 <= r /\ r <= 1114111 /\ ¬ (55296 <= r /\ r <= 57343)
def runesS (x : Rg) : List Rg :=
  (if max (max x.1 0) 0 <= min (min x.2 1114111) 55295 then [(max (max x.1 0) 0,min (min x.2 1114111) 55295)] else []) ++
  (if max (max x.1 0) 57344 <= min (min x.2 1114111) 1114111 then [(max (max x.1 0) 57344,min (min x.2 1114111) 1114111)] else [])
theorem runesS_mem (x : Rg) (r : Int) : memR (runesS x) r ↔ isRune r /\ x.1 <= r /\ r <= x.2 := by
  unfold runesS isRune
  rw [memR_append]
  have one : ∀ (a b : Int),memR (if a <= b then [(a,b)] else []) r ↔ a <= r /\ r <= b := by
    intro a b
    split
    · rw [memR_cons]
      exact ⟨fun h => h.elim id fun h => absurd h (memR_nil r), .inl⟩
    · exact ⟨fun h => absurd h (memR_nil r),fun h => by omega⟩
  rw [one,one]
  omega
theorem runesS_le (x : Rg) : ∀ y ∈ runesS x,y.1 <= y.2 /\ 0 <= y.1 /\ y.2 <= 1114111 := by
  intro y hy
  unfold runesS at hy
  rcases List.mem_append.1 hy with h | h <;> split at h <;> simp at h <;> subst h <;> simp only <;> omega
theorem make_canon {l all : List Rg} (hp : ∀ x,x ∈ all ↔ x ∈ l.flatMap runesS) (hs : all.Pairwise fun x y => x.1 <= y.1) : canon (all.foldl joinR []).reverse /\ ∀ r,memR (all.foldl joinR []).reverse r ↔ isRune r /\ memR l r := by
  have hle : ∀ x ∈ all,x.1 <= x.2 := fun x hx => by
    obtain ⟨y,_,hy⟩ := List.mem_flatMap.1 ((hp x).1 hx)
    exact (runesS_le y x hy).1
  obtain ⟨g1,g2⟩ := join_canon hle hs
  refine ⟨g1,fun r => (g2 r).trans ((memR_same hp r).trans ?_)⟩
  constructor
  · rintro ⟨y,hy,h⟩
    obtain ⟨x,hx,hy⟩ := List.mem_flatMap.1 hy
    have := (runesS_mem x r).1 ⟨y,hy,h⟩
    exact ⟨this.1,x,hx,this.2⟩
  · rintro ⟨hr,x,hx,h⟩
    obtain ⟨y,hy,h'⟩ := (runesS_mem x r).2 ⟨hr,h⟩
    exact ⟨y,List.mem_flatMap.2 ⟨x,hx,hy⟩,h'⟩
def hasS : List Rg -> Int -> Bool
  | [],_ => false
  | x :: l,r => (decide (x.1 <= r) && decide (r <= x.2)) || hasS l r
theorem hasS_iff : ∀ (l : List Rg) (r : Int),hasS l r = true ↔ memR l r
  | [],r => ⟨fun h => (by cases h),fun h => absurd h (memR_nil r)⟩
  | x :: l,r => by
    rw [memR_cons, <- hasS_iff l r]
    simp [hasS]
end Go.V
namespace Go.Proofs.Ytapfahlbkhgdpaa
open Go.V Go
def ixF_Ja (fr : Go.V.Fr) (k : Nat) : Go.V.D := Go.V.nth .junk fr.loc k
def rangeC (x : Rg) : List D := [.int .i32 x.1, .int .i32 x.2]
def rangesV (l : List Rg) : D := .sl (l.map fun x => .agg (rangeC x))
theorem rangesV_el (l : List Rg) : D.sl ((l.map rangeC).map (elD 2)) = rangesV l := by
 unfold rangesV; rw [List.map_map]; rfl
theorem range_plain (l : List Rg) : ∀ e ∈ l.map rangeC, ∀ d ∈ e,plainC d = true := by
 intro e he d hd;obtain ⟨x,_,rfl⟩ := List.mem_map.1 he;simp only [rangeC,List.mem_cons,List.not_mem_nil,or_false] at hd
 rcases hd with rfl | rfl <;> rfl
theorem range_refs (l : List Rg) : refs (l.map rangeC).flatten = 0 := by
 induction l with
 | nil => rfl
 | cons x l ih => simp only [List.map_cons,List.flatten_cons,rangeC,List.cons_append,List.nil_append,refs,D.ref,ih]; rfl
theorem range_len (l : List Rg) : ∀ e ∈ l.map rangeC,e.length = 2 := by
 intro e he; obtain ⟨x,_,rfl⟩ := List.mem_map.1 he; rfl
theorem rangesV_rows (st : St) (l : List Rg) : V.Rows st 2 (rangesV l) (l.map rangeC) := by
 rw [<- rangesV_el];exact Rows.ofFrozen (range_len l) (range_plain l)
theorem range_get {l : List Rg} {i : Nat} {q : Rg} (h : l[i]? = some q) : (l.map rangeC)[i]? = some (rangeC q) := by rw [List.getElem?_map,h]; rfl
theorem hasS_snoc (l : List Rg) (q : Rg) (r : Int) : hasS (l ++ [q]) r = (hasS l r || (decide (q.1 <= r) && decide (r <= q.2))) := by
 induction l with
 | nil => simp [hasS]
 | cons x l ih => simp only [List.cons_append,hasS,ih,Bool.or_assoc]
theorem hasS_pre {l : List Rg} {i : Nat} {r : Int} (h : hasS (l.take i) r = true) : hasS l r = true := by
 rw [hasS_iff] at h ⊢;obtain ⟨x,h1,h2⟩ := h;exact ⟨x,List.mem_of_mem_take h1,h2⟩
theorem has_ev {s0 : St} {x : D} {l : List Rg} {r : Int} (hx : V.Rows s0 2 x (l.map rangeC)) (hl : l.length <= 1073741824) : Ev pv 41 [x, .int .i32 r] s0 (.bool (hasS l r)) s0 := by
 refine Ev.mk1 rfl fi41 rfl rfl rfl ?_;refine zE ?_;obtain ⟨hSb,hF,hH⟩ := ri s0;generalize enterSt .ro s0 = S at *;have hx := Arg.of hx hSb;refine zQ 8 ?_;refine qn ?_;simp only [List.length_map];refine zQ 3 ?_;refine EvC.loop (fun mm fr st => ∃ (i : Nat),fr.clean = ⟨10, [x, .int .i32 r,ixF_Ja fr 2,ixF_Ja fr 3, .bool false,ixF_Ja fr 5,ixF_Ja fr 6,x, .int .i64 (l.length : Nat), .int .i64 (i : Nat)], []⟩ /\ Has s0.bs.length S st [] /\ (i + mm = l.length) /\ (hasS (l.take i) r = false)) (l.length) ?_ ?_
 ·exact ⟨0,rfl,hH,by omega,rfl⟩
 rintro mm fr st ⟨i,hfr,hH,hi,hn⟩;rw [hfr];clear hfr;generalize ixF_Ja fr = ee;clear fr;refine zQ 5 ?_;refine zP (fun h1 => ?_) fun h1 => ?_
 ·refine zQ 1 ?_
  obtain ⟨q,hq⟩ : ∃ q,l[i]? = some q := ⟨l[i]'(by omega),List.getElem?_eq_getElem _⟩
  have hr := range_get hq;refine zQ 4 ?_;refine qr fun p11 hp11 => ?_;refine EvO.rloadS rfl (ev rfl) (by assumption) rfl (put_T rfl _) ?_;refine qa hH fun k6 st hk6 hH => ?_;refine qS hH at0 fun st hH => ?_;dsimp only [u2,u1,u3,u4,setMany,u5,u6,D.cells,Nat.reduceAdd,rangeC] at hH;refine zQ 2 ?_;refine EvC.cutT 22 (.bool (decide (r >= q.1) && decide (r <= q.2))) [] ?_ (fun ff tmp htmp => ?_)
  ·refine zQ 5 ?_;refine EvO.two 17 rfl (fun hg4 => ?_) (fun hg4 => ?_)
   ·refine zQ 5 ?_;refine EvO.nil (leafT ?_ ?_)
    ·dsimp only [setW,List.foldl,nth,u2,u1]
     all_goals (first | rfl | simp)
    ·refine zF ?_
     all_goals (simp [hg4]; done)
   ·refine zQ 5 ?_;refine EvO.nil (leafT ?_ ?_)
    ·dsimp only [setW,List.foldl,nth,u2,u1]
     all_goals (first | rfl | simp)
    ·refine zF ?_
     all_goals (simp [hg4]; done)
  refine zG ?_
  have ht : hasS (l.take (i + 1)) r = (decide (r >= q.1) && decide (r <= q.2)) := by
   rw [List.take_add_one,hq,Option.toList_some,hasS_snoc,hn]; simp
  refine qc (fun h2 => ?_) (fun h2 => ?_) <;> try simp only [cs] at h2
  ·refine zQ 4 ?_;rw [hasS_pre (i := i + 1) (by rw [ht]; simp [h2])];refine EvC.ret ⟨rx,_,rfl,rl hSb hH (rfl)⟩
  ·refine zQ 5 ?_;exact ⟨mm - 1,by omega,⟨i + 1,rfl,(hH.drop 1),by omega,by rw [ht]; simp [h2]⟩⟩
 ·refine zQ 5 ?_;have : hasS l r = false := by rw [<- hn,List.take_of_length_le (by omega)]
  rw [this];refine EvC.ret ⟨rx,_,rfl,rl hSb hH (rfl)⟩
def ixF_Jb (fr : Go.V.Fr) (k : Nat) : Go.V.D := Go.V.nth .junk fr.loc k
def partsS : List Rg := [(0,55295),(57344,1114111)]
def oneP (lo hi : Int) (p : Rg) : List Rg := if max lo p.1 <= min hi p.2 then [(max lo p.1,min hi p.2)] else []
theorem runesS_parts (q : Rg) : runesS q = partsS.flatMap (oneP (max q.1 0) (min q.2 1114111)) := by
 simp [runesS,partsS,oneP]
theorem runes_ev {s0 : St} (q : Rg) : Ev pv 53 [.agg (rangeC q)] s0 (rangesV (runesS q)) s0 := by
 refine Ev.mk1 rfl fi53 rfl rfl rfl ?_;refine zE ?_;obtain ⟨hSb,hF,hH⟩ := ri s0;generalize enterSt .ro s0 = S at *;refine zQ 2 ?_;refine qb hH fun k1 st hk1 hH => ?_;dsimp only [u2,u1,u3,u4,setMany,u5,u6,D.cells,Nat.reduceAdd,rangeC] at hH;refine zQ 6 ?_;refine EvO.maxS (t1 := 0) (t2 := 0) rfl (ev rfl) (ev rfl) (by dsimp only [Fr.put,u1,u2] <;> rfl) ?_;refine zQ 2 ?_;refine EvO.minS (t1 := 0) (t2 := 0) rfl (ev rfl) (ev rfl) (by dsimp only [Fr.put,u1,u2] <;> rfl) ?_;refine zQ 1 ?_;refine qT hH at0 fun st hH => ?_;dsimp only [u2,u1,u3,u4,setMany,u5,u6,D.cells,Nat.reduceAdd,rangeC] at hH;refine zQ 1 ?_;refine qT hH at0 fun st hH => ?_;dsimp only [u2,u1,u3,u4,setMany,u5,u6,D.cells,Nat.reduceAdd,rangeC] at hH;refine zQ 1 ?_;generalize hlo : max q.1 0 = lo at *;generalize hhi : min q.2 1114111 = hi at *;refine zQ 4 ?_;have hH := hH.nulE 2;refine zQ 5 ?_;refine qh (s := 2) (vs := [_,_]) hH fun k17 st hk17 hH => ?_;dsimp only [u2,u1,u3,u4,setMany,u5,u6,D.cells,Nat.reduceAdd,rangeC] at hH;refine qn ?_ (hR := hH.rows at0);simp only [List.length_map,List.length_cons,List.length_nil];refine zQ 3 ?_;refine EvC.loop (fun mm fr st => ∃ (i : Nat) (x : D),fr.clean = ⟨20, [.agg (rangeC q), .ptr k1 0 0, .nul,x,ixF_Jb fr 4,ixF_Jb fr 5,ixF_Jb fr 6,ixF_Jb fr 7,ixF_Jb fr 8,ixF_Jb fr 9,ixF_Jb fr 10,ixF_Jb fr 11,ixF_Jb fr 12,ixF_Jb fr 13,ixF_Jb fr 14,ixF_Jb fr 15,ixF_Jb fr 16, .win k17 0 0 2 2, .int .i64 2, .int .i64 (i : Nat)], []⟩ /\ Has s0.bs.length S st [.lst (.win k17 0 0 2 2) 2 (partsS.map rangeC), .lst x 2 (((partsS.take i).flatMap (oneP lo hi)).map rangeC), .box k1 (.mem 0 false [.int .i32 lo, .int .i32 hi])] /\ (i + mm = 2) /\ (((partsS.take i).flatMap (oneP lo hi)).length <= i)) (2) ?_ ?_
 ·exact ⟨0, .nul,rfl,hH,by omega,by simp⟩
 rintro mm fr st ⟨i,x,hfr,hH,hij,hb⟩;rw [hfr];clear hfr;generalize ixF_Jb fr = ee;clear fr;refine zQ 5 ?_;refine zP (fun h1 => ?_) fun h1 => ?_
 ·refine zQ 1 ?_
  obtain ⟨p,hp⟩ : ∃ p,partsS[i]? = some p := ⟨partsS[i]'(by simp [partsS]; omega),List.getElem?_eq_getElem _⟩
  have hr := range_get hp;refine zQ 4 ?_;refine qi hH at0 fun p21 hp21 => ?_;refine EvO.oloadS hH rfl (ev rfl) (by assumption) (by exact at0) (by assumption) rfl (put_T rfl _) ?_;refine qa hH fun k5 st hk5 hH => ?_;refine qS hH at0 fun st hH => ?_;dsimp only [u2,u1,u3,u4,setMany,u5,u6,D.cells,Nat.reduceAdd,rangeC] at hH;refine zQ 7 ?_;refine EvO.maxS (t1 := 0) (t2 := 0) rfl (ev rfl) (ev rfl) (put_T rfl _) ?_;refine zQ 4 ?_;refine EvO.minS (t1 := 0) (t2 := 0) rfl (ev rfl) (ev rfl) (put_T rfl _) ?_;refine qg ?_;refine qa hH fun k6 st hk6 hH => ?_;refine qS hH at0 fun st hH => ?_;dsimp only [u2,u1,u3,u4,setMany,u5,u6,D.cells,Nat.reduceAdd,rangeC] at hH;refine zQ 9 ?_;refine zP (fun h2 => ?_) fun h2 => ?_
  ·refine zQ 2 ?_;refine EvO.hloadS (m := 2) hH rfl (ev rfl) (by exact at0) (by dsimp only [List.drop_succ_cons,List.drop_zero,List.take_succ_cons,List.take_zero,rangeC] <;> rfl) rfl rfl (put_T rfl _) ?_;refine qh (s := 2) (vs := [_]) hH fun k41 st hk41 hH => ?_;refine EvO.happend (s := 2) hH rfl (ev rfl) (ev rfl) (by exact at4) (by exact hH.rows (by exact at0)) rfl rfl rfl rfl rfl rfl rfl ⟨(Nat.le_of_ble_eq_true rfl),(Nat.le_of_ble_eq_true rfl)⟩ (fun _ => (put_T rfl _)) (by simp only [List.length_cons,List.length_nil,List.length_map] <;> omega) (by exact .inl hF) (fun x42 st hH => ?_);dsimp only [u2,u1,u3,u4,setMany,u5,u6,D.cells,Nat.reduceAdd,rangeC] at hH;refine zQ 6 ?_
   have h3 : (partsS.take (i + 1)).flatMap (oneP lo hi) = (partsS.take i).flatMap (oneP lo hi) ++ [(max lo p.1,min hi p.2)] := by
    rw [List.take_add_one,hp,List.flatMap_append]; simp [oneP,h2]
   exact ⟨mm - 1,by omega,⟨i + 1,x42,rfl,(by rw [h3,List.map_append]; exact hH.drop 3),by omega,by rw [h3]; simp only [List.length_append,List.length_cons,List.length_nil]; omega⟩⟩
  ·refine zQ 5 ?_
   have h3 : (partsS.take (i + 1)).flatMap (oneP lo hi) = (partsS.take i).flatMap (oneP lo hi) := by
    rw [List.take_add_one,hp,List.flatMap_append]; simp [oneP,h2]
   exact ⟨mm - 1,by omega,⟨i + 1,x,rfl,(by rw [h3]; exact hH.drop 2),by omega,by rw [h3]; omega⟩⟩
 ·refine zQ 6 ?_;rw [<- rangesV_el];have h3 : partsS.take i = partsS := List.take_of_length_le (by simp [partsS]; omega);rw [h3] at hH;refine EvC.ret ⟨rx,_,rfl,rl hSb hH ?_⟩;refine Eq.trans (hH.freeze at1 (range_plain _) (n := 15) (by decide)) ?_;rw [runesS_parts,hlo,hhi]
theorem runesS_lo (q x : Rg) (h : x ∈ runesS q) : 0 <= x.1 /\ x.1 <= 1114111 := by
 obtain ⟨h1,h2,h3⟩ := runesS_le q x h;omega
theorem runesS_len (q : Rg) : (runesS q).length <= 2 := by
 unfold runesS; split <;> split <;> simp
theorem flatMap_len (l : List Rg) : (l.flatMap runesS).length <= 2 * l.length := by
 induction l with
 | nil => simp
 | cons x l ih => simp only [List.flatMap_cons,List.length_append,List.length_cons]; have := runesS_len x; omega
theorem toRs_some : ∀ {l : List Rg},(∀ x ∈ l,0 <= x.1 /\ x.1 <= 1114111) -> ∃ m : List Rs,encD m = (l.map rangeC).flatten /\ m.map (fun x => (x.lo,x.hi)) = l
 | [],_ => ⟨[],rfl,rfl⟩
 | x :: l,h => by
  obtain ⟨m,h1,h2⟩ := toRs_some (l := l) fun y hy => h y (List.mem_cons_of_mem _ hy);obtain ⟨h3,h4⟩ := h x (List.mem_cons_self ..);exact ⟨⟨x.1,x.2,h3,h4⟩ :: m,by simp only [encD,h1,List.map_cons,List.flatten_cons,rangeC,List.cons_append,List.nil_append],by simp [h2]⟩
theorem encD_range (m : List Rs) : encD m = ((m.map fun x => ((x.lo,x.hi) : Rg)).map rangeC).flatten := by
 induction m with
 | nil => rfl
 | cons x m ih => simp only [encD,ih,List.map_cons,List.flatten_cons,rangeC,List.cons_append,List.nil_append]
theorem has_sort {N : Nat} {S st : St} {H : List Ent} {j : Nat} {x : D} {l : List Rg} (hH : Has N S st H) (hj : H[j]? = some (.lst x 2 (l.map rangeC))) (h0 : l = [] -> x = .nul) (hl : l.length <= 1073741824) (hr : ∀ y ∈ l,0 <= y.1 /\ y.1 <= 1114111) :
  ∃ (st' : St) (l' : List Rg),Ev pv 54 [x, .fn 55 []] st (.tup []) st' /\ Has N S st' (H.set j (.lst x 2 (l'.map rangeC))) /\ l'.Perm l /\ l'.Pairwise fun a b => a.1 <= b.1 := by
 obtain ⟨m,h1,h2⟩ := toRs_some hr;obtain ⟨h3,h4⟩ := srt_facts m;have hml : m.length = l.length := by rw [<- h2]; simp
 have hperm : ((srt m).map fun x => ((x.lo,x.hi) : Rg)).Perm l := by rw [<- h2]; exact h3.map _
 have hpair : ((srt m).map fun x => ((x.lo,x.hi) : Rg)).Pairwise fun a b => a.1 <= b.1 := by rw [List.pairwise_map]; exact h4
 have hlen : (srt m).length = l.length := h3.length_eq.trans hml;have hown := hH.own hj;generalize hes : l.map rangeC = es at *;have hel : es.length = l.length := by rw [<- hes]; simp
 cases hown with
 | nul =>
  have hl0 : l = [] := by cases l with | nil => rfl | cons _ _ => simp at hel
  refine ⟨st,(srt m).map fun x => (x.lo,x.hi),Ev.prim rfl rfl,?_,hperm,hpair⟩
  have : (srt m).map (fun x => ((x.lo,x.hi) : Rg)) = [] := by
   cases hs : srt m with
   | nil => rfl
   | cons a b => rw [hs,hl0] at hlen; simp at hlen
  rw [this];exact hH.upd hj (fun _ _ _ => rfl) (Nat.le_refl _) rfl rfl .nul (fun k hk => .inl hk) fun k hk => by simp only [Ent.lst,D.ref] at hk; omega
 | win k ver off es c hm hle hc he =>
  have hne : l ≠ [] := fun e => by have := h0 e; cases this
  have hl1 : 1 <= l.length := by cases l with | nil => exact absurd rfl hne | cons _ _ => simp
  have hk := (hH.ok j _ hj).2 k (by simp only [Ent.lst,D.ref]);have hel2 : (encD (srt m)).length = es.length * 2 := by rw [encD_len,hlen,hel]; omega
  have hwr : st.wr k ver off (encD (srt m)) = some ⟨st.bs.set k (.mem ver true (c.take off ++ encD (srt m) ++ c.drop (off + (encD (srt m)).length))),st.flr,st.ro⟩ :=
   wr_own hm (by omega) (canW_has hH hk.1 (.inr (encD_refs _)))
  refine ⟨⟨st.bs.set k (.mem ver true (c.take off ++ encD (srt m) ++ c.drop (off + (encD (srt m)).length))),st.flr,st.ro⟩,(srt m).map fun x => (x.lo,x.hi),Ev.prim rfl ?_,?_,hperm,hpair⟩
  ·show srtP [.win k ver off es.length 2, .fn 55 []] st = _;have hcc : (c.drop off).take (2 * es.length) = encD m := by rw [Nat.mul_comm,hc,h1]
   simp only [srtP,St.mem_of hm,hcc,rgD_enc,srtQ];rw [decide_eq_true (⟨by rw [hml,hel],by omega,by omega⟩ : m.length = es.length /\ 1 <= es.length /\ es.length < 1099511627776)];simp only [hwr]
  ·refine hH.upd hj (fun n hn hne => ?_) (by simp) rfl rfl ?_ (fun n hn => .inl hn) fun n hn => ?_
   ·simp only; rw [List.getElem?_set_ne (fun e => hne (by simp only [Ent.lst,D.ref]; omega))]
   ·have h9 := OwnP.win (st := ⟨st.bs.set k (.mem ver true (c.take off ++ encD (srt m) ++ c.drop (off + (encD (srt m)).length))),st.flr,st.ro⟩) (s := 2) k ver off (((srt m).map fun x => ((x.lo,x.hi) : Rg)).map rangeC) (c.take off ++ encD (srt m) ++ c.drop (off + (encD (srt m)).length))
     (by simp only; rw [List.getElem?_set_self hk.2]) (by simp only [List.length_append,List.length_take,List.length_map,List.length_drop,hel2]; omega) ?_ (range_len _)
    ·simp only [List.length_map,hlen] at h9;rw [hel]; exact h9
    ·have hoff : (c.take off).length = off := by simp; omega
     rw [List.append_assoc,List.drop_left' hoff, <- encD_range,List.take_left' (by simp only [List.length_map,hlen]; omega)]
   ·simp only [Ent.lst,D.ref] at hn; simp only [List.length_set]; omega
theorem join_pos (l : List Rg) : (l.foldl joinR []).length <= l.length := by
 have key : ∀ (l acc : List Rg),(l.foldl joinR acc).length <= acc.length + l.length := by
  intro l
  induction l with
  | nil => intro acc; simp
  | cons x l ih =>
   intro acc;simp only [List.foldl_cons,List.length_cons];have := ih (joinR acc x)
   have h2 : (joinR acc x).length <= acc.length + 1 := by
    unfold joinR; split
    ·simp
    ·split <;> simp
   omega
 have := key l []
 simpa using this
theorem join_hi {l : List Rg} (h : ∀ x ∈ l,0 <= x.2 /\ x.2 <= 1114111) : ∀ x ∈ l.foldl joinR [],0 <= x.2 /\ x.2 <= 1114111 := by
 have key : ∀ (l acc : List Rg),(∀ x ∈ l,0 <= x.2 /\ x.2 <= 1114111) -> (∀ x ∈ acc,0 <= x.2 /\ x.2 <= 1114111) -> ∀ x ∈ l.foldl joinR acc,0 <= x.2 /\ x.2 <= 1114111 := by
  intro l
  induction l with
  | nil => intro acc _ h x hx; exact h x hx
  | cons y l ih =>
   intro acc h1 h2;refine ih _ (fun x hx => h1 x (List.mem_cons_of_mem _ hx)) fun x hx => ?_;have hy := h1 y (List.mem_cons_self ..);unfold joinR at hx
   split at hx
   ·simp only [List.mem_cons,List.not_mem_nil,or_false] at hx; rw [hx]; exact hy
   ·rename_i k rest;have hk := h2 k (List.mem_cons_self ..)
    split at hx
    ·rcases List.mem_cons.1 hx with rfl | hx
     ·simp only; omega
     ·exact h2 x (List.mem_cons_of_mem _ hx)
    ·rcases List.mem_cons.1 hx with rfl | hx
     ·exact hy
     ·exact h2 x hx
 exact key l [] h (fun x hx => by cases hx)
theorem last_get (h : Rg) (t : List Rg) : ((h :: t).reverse.map rangeC)[t.length]? = some (rangeC h) := by
 rw [List.getElem?_map,List.reverse_cons,List.getElem?_append_right (by simp)]; simp
theorem last_set (h h' : Rg) (t : List Rg) : ((h :: t).reverse.map rangeC).set t.length (rangeC h') = (h' :: t).reverse.map rangeC := by
 rw [List.reverse_cons,List.map_append,List.set_append_right _ _ (by simp)]; simp
theorem make_ev {s0 : St} {x : D} {l : List Rg} (hx : V.Rows s0 2 x (l.map rangeC)) (hl : l.length <= 268435456) : ∃ d,Ev pv 49 [x] s0 d s0 /\ ∃ all : List Rg,d = rangesV (all.foldl joinR []).reverse /\ all.Perm (l.flatMap runesS) /\ all.Pairwise fun a b => a.1 <= b.1 := by
 refine Ev.mkR rfl fi49 rfl rfl rfl ?_;refine zE ?_;obtain ⟨hSb,hF,hH⟩ := ri s0;generalize enterSt .ro s0 = S at *;have hx := Arg.of hx hSb;have hfl := flatMap_len l
 have hfi : ∀ i,((l.take i).flatMap runesS).length <= 2 * l.length := fun i => by
  have := flatMap_len (l.take i);simp only [List.length_take] at this;omega
 refine zQ 13 ?_;refine qn ?_;simp only [List.length_map];refine zQ 2 ?_;have hH := hH.nulE 2;refine zQ 1 ?_;refine EvC.loop (fun mm fr st => ∃ (i : Nat) (y : D),fr.clean = ⟨26, [x,ixF_Jb fr 1,ixF_Jb fr 2,y, .nul,ixF_Jb fr 5,ixF_Jb fr 6,ixF_Jb fr 7,ixF_Jb fr 8,ixF_Jb fr 9,x, .int .i64 (l.length : Nat), .int .i64 (i : Nat),ixF_Jb fr 13,ixF_Jb fr 14,ixF_Jb fr 15,ixF_Jb fr 16,ixF_Jb fr 17,ixF_Jb fr 18,ixF_Jb fr 19,ixF_Jb fr 20,ixF_Jb fr 21,ixF_Jb fr 22,ixF_Jb fr 23,ixF_Jb fr 24,ixF_Jb fr 25], []⟩ /\ Has s0.bs.length S st [.lst y 2 (((l.take i).flatMap runesS).map rangeC)] /\ (i + mm = l.length) /\ ((l.take i).flatMap runesS = [] -> y = .nul)) (l.length) ?_ ?_
 ·exact ⟨0, .nul,rfl,hH,by omega,fun _ => rfl⟩
 rintro mm fr st ⟨i,y,hfr,hH,hi,hnul⟩;rw [hfr];clear hfr;generalize ixF_Jb fr = ee;clear fr;refine zQ 4 ?_;have hm := hfi i;refine qq ?_;refine zP (fun h1 => ?_) fun h1 => ?_
 ·refine zQ 1 ?_
  obtain ⟨q,hq⟩ : ∃ q,l[i]? = some q := ⟨l[i]'(by omega),List.getElem?_eq_getElem _⟩
  have hr := range_get hq
  have hm1 : (l.take (i + 1)).flatMap runesS = (l.take i).flatMap runesS ++ runesS q := by
   rw [List.take_add_one,hq]; simp
  have hrq := runesS_len q;refine zQ 4 ?_;refine qr fun p14 hp14 => ?_;refine EvO.rloadS rfl (ev rfl) (by assumption) rfl (by dsimp only [Fr.put,u1,u2] <;> rfl) ?_;refine qa hH fun k6 st hk6 hH => ?_;refine qS hH at0 fun st hH => ?_;dsimp only [u2,u1,u3,u4,setMany,u5,u6,D.cells,Nat.reduceAdd,rangeC] at hH;refine zQ 3 ?_;refine EvO.hloadS (m := 2) hH rfl (ev rfl) (by exact at0) (by dsimp only [List.drop_succ_cons,List.drop_zero,List.take_succ_cons,List.take_zero,rangeC] <;> rfl) rfl rfl (by dsimp only [Fr.put,u1,u2] <;> rfl) ?_;refine qv (runes_ev q) ?_;refine EvO.happend0 hH rfl rfl rfl (by exact at1) (rangesV_rows _ _) rfl rfl rfl rfl rfl rfl rfl ⟨(Nat.le_of_ble_eq_true rfl),(Nat.le_of_ble_eq_true rfl)⟩ (fun _ => by dsimp only [Fr.put,u1,u2] <;> rfl) (by simp only [List.length_map]; omega) (.inl hF) (fun x19 st hnul2 hH => ?_);dsimp only [u2,u1] at hH;refine zQ 6 ?_;exact ⟨mm - 1,by omega,⟨i + 1,x19,rfl,(by rw [hm1,List.map_append]; exact hH.drop 1),by omega,by rw [hm1]; intro h; obtain ⟨h3,h4⟩ := List.append_eq_nil_iff.1 h; rw [hnul2 (by rw [h4]; rfl)]; exact hnul h3⟩⟩
 ·refine zQ 1 ?_;have hT : l.take i = l := List.take_of_length_le (by omega);rw [hT] at hH hnul hm
  obtain ⟨st2,all,hev,hH2,hperm,hpair⟩ := has_sort hH at0 hnul (by omega) (fun z hz => by
   obtain ⟨w,_,hw⟩ := List.mem_flatMap.1 hz
   exact runesS_lo w z hw)
  have hlen := hperm.length_eq
  have hbd : ∀ z ∈ all,0 <= z.2 /\ z.2 <= 1114111 := fun z hz => by
   obtain ⟨w,_,hw⟩ := List.mem_flatMap.1 (hperm.mem_iff.1 hz);have := runesS_le w z hw;omega
  refine zQ 3 ?_;refine qv (hev) ?_;refine zQ 1 ?_;have hH := hH2;dsimp only [u2] at hH;clear hH2 hev;have hR := hH.rows at0;have hH := hH.nulE 2;refine zQ 4 ?_;refine qn ?_ (hR := hH.rows at1);simp only [List.length_map];refine zQ 3 ?_;refine EvC.loop (fun mm fr st => ∃ (i : Nat) (z : D),fr.clean = ⟨26, [x,ixF_Jb fr 1,ixF_Jb fr 2,y,z,ixF_Jb fr 5,ixF_Jb fr 6,ixF_Jb fr 7,ixF_Jb fr 8,ixF_Jb fr 9,ixF_Jb fr 10,ixF_Jb fr 11,ixF_Jb fr 12,ixF_Jb fr 13,ixF_Jb fr 14,ixF_Jb fr 15,ixF_Jb fr 16,ixF_Jb fr 17,ixF_Jb fr 18,ixF_Jb fr 19,ixF_Jb fr 20,ixF_Jb fr 21,ixF_Jb fr 22,y, .int .i64 (all.length : Nat), .int .i64 (i : Nat)], []⟩ /\ Has s0.bs.length S st [.lst z 2 (((all.take i).foldl joinR []).reverse.map rangeC), .lst y 2 (all.map rangeC)] /\ (i + mm = all.length)) (all.length) ?_ ?_
  ·exact ⟨0, .nul,rfl,hH,by omega⟩
  rintro mm fr st ⟨i,z,hfr,hH,hi⟩;rw [hfr];clear hfr;generalize ixF_Jb fr = ee;clear fr;refine zQ 4 ?_
  have hjl : ((all.take i).foldl joinR []).length <= all.length := by
   have := join_pos (all.take i);simp only [List.length_take] at this; omega
  refine qq ?_;refine zP (fun h1 => ?_) fun h1 => ?_
  ·refine zQ 1 ?_
   obtain ⟨q,hq⟩ : ∃ q,all[i]? = some q := ⟨all[i]'(by omega),List.getElem?_eq_getElem _⟩
   have hr := range_get hq
   have hj1 : (all.take (i + 1)).foldl joinR [] = joinR ((all.take i).foldl joinR []) q := by
    rw [List.take_add_one,hq,List.foldl_append]; rfl
   generalize hacc : (all.take i).foldl joinR [] = acc at *;refine zQ 4 ?_;refine qi hH at1 fun p27 hp27 => ?_;refine EvO.oloadS hH rfl (ev rfl) (by assumption) (by exact at1) (by assumption) rfl (put_T rfl _) ?_;refine qa hH fun k8 st hk8 hH => ?_;refine qS hH at0 fun st hH => ?_;dsimp only [u2,u1,u3,u4,setMany,u5,u6,D.cells,Nat.reduceAdd,rangeC] at hH;refine zQ 1 ?_
   rcases acc with _ | ⟨h,t⟩
   ·refine zQ 3 ?_;refine qn ?_ (hR := hH.rows at1);simp only [List.length_map,List.length_nil,List.length_reverse];refine EvO.subZ (z := (-1)) rfl (ev rfl) (ev rfl) (by (try simp only [List.length_reverse,List.length_cons,List.length_nil,List.length_append,List.length_map,List.length_set]); rw [wrap_i64 (by omega) (by omega)] <;> omega) (put_T rfl _) ?_;refine zQ 2 ?_;have hg2 : decide ((-1 : Int) >= 0) = false := by decide
    refine qq ?_;refine EvC.cutT 44 (.bool false) [] ?_ (fun ff tmp htmp => ?_)
    ·refine zQ 13 ?_;refine EvO.nil (leafT ?_ ?_)
     ·dsimp only [setW,List.foldl,nth,u2,u1]
      all_goals (first | rfl | simp)
     ·dsimp only [Fr.putO,Fr.put,Fr.clean,Fr.ev,Fr.get,nth,look,u1,u2,v1,v2,v4]
      all_goals (first | rfl | (simp [hg2]; done) | (simp_all; done) | (simp [hg2]; omega) | (simp_all; omega))
    dsimp only [setW,List.foldl,nth,u2,u1];dsimp only [Fr.putO,Fr.put,Fr.clean,Fr.ev,Fr.get,nth,look,u1,u2,v1,v2,v4];refine zQ 3 ?_;refine EvO.hloadS (m := 2) hH rfl (ev rfl) (by exact at0) (by dsimp only [List.drop_succ_cons,List.drop_zero,List.take_succ_cons,List.take_zero,rangeC] <;> rfl) rfl rfl (put_T rfl _) ?_;refine qh (s := 2) (vs := [_]) hH fun k59 st hk59 hH => ?_;refine EvO.happend (s := 2) hH rfl (ev rfl) (ev rfl) (by exact at2) (by exact hH.rows (by exact at0)) rfl rfl rfl rfl rfl rfl rfl ⟨(Nat.le_of_ble_eq_true rfl),(Nat.le_of_ble_eq_true rfl)⟩ (fun _ => (put_T rfl _)) (by simp only [List.length_cons,List.length_nil,List.length_map,List.length_reverse] <;> omega) (by exact .inl hF) (fun x60 st hH => ?_);dsimp only [u2,u1,u3,u4,setMany,u5,u6,D.cells,Nat.reduceAdd,rangeC] at hH;refine zQ 6 ?_;exact ⟨mm - 1,by omega,⟨i + 1,x60,rfl,(by rw [hj1]; exact hH.drop 2),by omega⟩⟩
   ·simp only [List.length_cons] at hjl;refine zQ 3 ?_;refine qn ?_ (hR := hH.rows at1);simp only [List.length_map,List.length_cons,List.length_reverse];refine EvO.subZ (z := ((t.length : Nat) : Int)) rfl (ev rfl) (ev rfl) (by (try simp only [List.length_reverse,List.length_cons,List.length_nil,List.length_append,List.length_map,List.length_set]); rw [wrap_i64 (by omega) (by omega)] <;> omega) (put_T rfl _) ?_;refine zQ 2 ?_;have hlast := last_get h t;have hset := last_set h (h.1,max h.2 q.2) t;have hhi := join_hi (l := all.take i) (fun x hx => hbd x (List.mem_of_mem_take hx)) h (by rw [hacc]; exact List.mem_cons_self ..);have hg2 : decide (((t.length : Nat) : Int) >= 0) = true := by rw [decide_eq_true]; omega
    refine qq ?_;refine EvC.cutT 44 (.bool (decide (q.1 <= h.2 + 1))) [] ?_ (fun ff tmp htmp => ?_)
    ·refine zQ 7 ?_;refine qi hH at1 (fun p39 hp39 => ?_) (hg := wi hg2);refine EvO.ofieldN (fo := 1) (m := 0) (o2 := 1) (wantD_is rfl rfl rfl hg2) (ev rfl) (by assumption) rfl rfl rfl (fun _ => (put_T rfl _)) (fun p40 hp40 => ?_);refine zQ 1 ?_;refine EvO.addS32 (wantD_is rfl rfl rfl hg2) (ev rfl) (ev rfl) (by omega) (by omega) (put_T rfl _) ?_;refine zQ 2 ?_;refine EvO.nil (leafT ?_ ?_)
     ·dsimp only [setW,List.foldl,nth,u2,u1]
      all_goals (first | rfl | simp)
     ·dsimp only [Fr.putO,Fr.put,Fr.clean,Fr.ev,Fr.get,nth,look,u1,u2,v1,v2,v4]
      all_goals (first | rfl | (simp [hg2]; done) | (simp_all; done) | (simp [hg2]; omega) | (simp_all; omega))
    dsimp only [setW,List.foldl,nth,u2,u1];dsimp only [Fr.putO,Fr.put,Fr.clean,Fr.ev,Fr.get,nth,look,u1,u2,v1,v2,v4];refine EvC.cond (by assumption) (fun h2 => ?_) (fun h2 => ?_) <;> try simp only [decide_eq_true_eq,decide_eq_false_iff_not] at h2
    ·refine zQ 5 ?_;refine qi hH at1 fun p49 hp49 => ?_;refine EvO.ofieldN (fo := 1) (m := 0) (o2 := 1) rfl (ev rfl) (by assumption) rfl rfl rfl (fun _ => (put_T rfl _)) (fun p50 hp50 => ?_);refine zQ 3 ?_;refine EvO.maxS (t1 := 0) (t2 := 0) rfl (ev rfl) (ev rfl) (put_T rfl _) ?_;refine qi hH at1 fun p55 hp55 => ?_;refine EvO.ofieldN (fo := 1) (m := 0) (o2 := 1) rfl (ev rfl) (by assumption) rfl rfl rfl (fun _ => (put_T rfl _)) (fun p56 hp56 => ?_);refine EvO.ostore hH rfl (ev rfl) (ev rfl) (by assumption) rfl rfl (by exact at1) (by assumption) (Nat.le_of_ble_eq_true rfl) (by exact .inl hF) (fun st hH => ?_);dsimp only [u2,u1,u3,u4,setMany,u5,u6,D.cells,Nat.reduceAdd,rangeC] at hH;refine zQ 5 ?_;exact ⟨mm - 1,by omega,⟨i + 1,z,rfl,(by rw [hj1]; simp only [joinR,if_pos h2]; rw [<- hset]; exact hH.drop 1),by omega⟩⟩
    ·refine zQ 2 ?_;refine EvO.hloadS (m := 2) hH rfl (ev rfl) (by exact at0) (by dsimp only [List.drop_succ_cons,List.drop_zero,List.take_succ_cons,List.take_zero,rangeC] <;> rfl) rfl rfl (put_T rfl _) ?_;refine qh (s := 2) (vs := [_]) hH fun k59 st hk59 hH => ?_;refine EvO.happend (s := 2) hH rfl (ev rfl) (ev rfl) (by exact at2) (by exact hH.rows (by exact at0)) rfl rfl rfl rfl rfl rfl rfl ⟨(Nat.le_of_ble_eq_true rfl),(Nat.le_of_ble_eq_true rfl)⟩ (fun _ => (put_T rfl _)) (by simp only [List.length_cons,List.length_nil,List.length_map,List.length_reverse] <;> omega) (by exact .inl hF) (fun x60 st hH => ?_);dsimp only [u2,u1,u3,u4,setMany,u5,u6,D.cells,Nat.reduceAdd,rangeC] at hH;refine zQ 6 ?_;exact ⟨mm - 1,by omega,⟨i + 1,x60,rfl,(by rw [hj1]; simp only [joinR,if_neg h2]; rw [List.reverse_cons (a := q),List.map_append]; exact hH.drop 2),by omega⟩⟩
  ·refine zQ 6 ?_;rw [List.take_of_length_le (by omega)] at hH;refine EvC.ret ⟨rx,_,_,rfl,rl hSb hH ((hH.freeze at0 (range_plain _) (n := 15) (by decide))),?_⟩;exact ⟨all,by rw [rangesV_el],hperm,hpair⟩
def ixF_Je (fr : Go.V.Fr) (k : Nat) : Go.V.D := Go.V.nth .junk fr.loc k
def MakeIs (l a : List Rg) : Prop := canon a /\ ∀ r,memR a r ↔ isRune r /\ memR l r
theorem MakeIs.unique {l a b : List Rg} (h : MakeIs l a) (g : MakeIs l b) : a = b := canon_unique h.1 g.1 fun r => (h.2 r).trans (g.2 r).symm
noncomputable def rightS (l : List Rg) : Bool := @decide (MakeIs l l) (Classical.propDecidable _)
theorem rightS_of {l a : List Rg} (h : MakeIs l a) : rightS l = decide (l = a) := by
 unfold rightS
 by_cases hl : l = a
 ·rw [decide_eq_true hl]; exact @decide_eq_true _ (Classical.propDecidable _) (by rw [hl] at h ⊢; exact h)
 ·rw [decide_eq_false hl]; exact @decide_eq_false _ (Classical.propDecidable _) (fun g => hl (g.unique h))
theorem neq_range (p q : Rg) : binD pv .neq 104 (.agg (rangeC p)) (.agg (rangeC q)) = some (.bool (!decide (p = q))) := by
 have h : ∀ a b a' b' : Int,binD pv .neq 104 (.agg [.int .i32 a, .int .i32 b]) (.agg [.int .i32 a', .int .i32 b']) = Option.map (fun b => D.bool !b) (match some (a == a') with | some true => (match some (b == b') with | some true => some true | some false => some false | none => none) | some false => some false | none => none) := fun _ _ _ _ => rfl;obtain ⟨a,b⟩ := p;obtain ⟨a',b'⟩ := q;simp only [rangeC,h]
 by_cases h1 : a = a'
 ·subst h1
  by_cases h2 : b = b'
  ·subst h2; simp
  ·have : (b == b') = false := by simpa using h2
   simp [this,h2]
 ·have : (a == a') = false := by simpa using h1
  simp [this,h1]
theorem take_eq_step {α : Type} {a b : List α} {i : Nat} {x y : α} (ha : a[i]? = some x) (hb : b[i]? = some y) (h : a.take i = b.take i) (hxy : x = y) : a.take (i + 1) = b.take (i + 1) := by
 rw [List.take_add_one,List.take_add_one,h,ha,hb,hxy]
theorem ne_of_get {α : Type} {a b : List α} {i : Nat} {x y : α} (ha : a[i]? = some x) (hb : b[i]? = some y) (hxy : ¬ x = y) : ¬ a = b := by
 intro h; subst h; rw [ha] at hb; exact hxy (Option.some.inj hb)
theorem equal_ev {s0 : St} {x y : D} {l m : List Rg} (hx : V.Rows s0 2 x (l.map rangeC)) (hy : V.Rows s0 2 y (m.map rangeC)) (hl : l.length <= 1073741824) (hm : m.length <= 1073741824) : Ev pv 48 [x,y] s0 (.bool (decide (l = m))) s0 := by
 refine Ev.mk1 rfl fi48 rfl rfl rfl ?_;refine zE ?_;obtain ⟨hSb,hF,hH⟩ := ri s0;generalize enterSt .ro s0 = S at *;have hx := Arg.of hx hSb;have hy := Arg.of hy hSb;refine zQ 8 ?_;refine qn ?_;simp only [List.length_map];refine qm ?_;refine qn ?_;simp only [List.length_map];refine zQ 2 ?_
 by_cases hlen : l.length = m.length
 ·refine EvC.cond (v := false) ?_ (fun h => by cases h) (fun _ => ?_)
  ·dsimp only [Fr.ev,Fr.get,nth,V.look]; rw [hlen]; simp
  refine zQ 5 ?_;refine qn ?_;simp only [List.length_map];refine zQ 3 ?_;refine EvC.loop (fun mm fr st => ∃ (i : Nat),fr.clean = ⟨14, [x,y,ixF_Je fr 2,ixF_Je fr 3, .bool false,ixF_Je fr 5,ixF_Je fr 6,ixF_Je fr 7,ixF_Je fr 8,ixF_Je fr 9,ixF_Je fr 10,ixF_Je fr 11, .int .i64 (l.length : Nat), .int .i64 (i : Nat)], []⟩ /\ Has s0.bs.length S st [] /\ (i + mm = l.length) /\ (l.take i = m.take i)) (l.length) ?_ ?_
  ·exact ⟨0,rfl,hH,by omega,rfl⟩
  rintro mm fr st ⟨i,hfr,hH,hi,ht⟩;rw [hfr];clear hfr;generalize ixF_Je fr = ee;clear fr;refine zQ 5 ?_;refine zP (fun h1 => ?_) fun h1 => ?_
  ·refine zQ 1 ?_
   obtain ⟨p,hp⟩ : ∃ p,l[i]? = some p := ⟨l[i]'(by omega),List.getElem?_eq_getElem _⟩
   obtain ⟨q,hq⟩ : ∃ q,m[i]? = some q := ⟨m[i]'(by omega),List.getElem?_eq_getElem _⟩
   have hr1 := range_get hp;have hr2 := range_get hq;refine zQ 11 ?_;refine qr fun p18 hp18 => ?_;refine EvO.rloadS rfl (ev rfl) (by assumption) rfl (put_T rfl _) ?_;refine zQ 2 ?_;refine qr fun p22 hp22 => ?_;refine EvO.rloadS rfl (ev rfl) (by assumption) rfl (put_T rfl _) ?_;refine EvO.neB rfl (ev rfl) (ev rfl) (neq_range p q) (put_T rfl _) ?_;refine zQ 1 ?_;refine EvC.cond (by rfl) (fun h2 => ?_) (fun h2 => ?_) <;> try simp only [decide_eq_true_eq,decide_eq_false_iff_not,Bool.not_eq_true',Bool.not_eq_false'] at h2
   ·refine zQ 4 ?_;rw [decide_eq_false (ne_of_get hp hq (by simpa using h2))];refine EvC.ret ⟨rx,_,rfl,rl hSb hH (rfl)⟩
   ·refine zQ 5 ?_;exact ⟨mm - 1,by omega,⟨i + 1,rfl,hH,by omega,take_eq_step hp hq ht (by simpa using h2)⟩⟩
  ·refine zQ 5 ?_;rw [decide_eq_true (by rw [List.take_of_length_le (by omega),List.take_of_length_le (by omega)] at ht; exact ht)];refine EvC.ret ⟨rx,_,rfl,rl hSb hH (rfl)⟩
 ·refine EvC.cond (v := true) ?_ (fun _ => ?_) (fun h => by cases h)
  ·dsimp only [Fr.ev,Fr.get,nth,V.look]; simp; omega
  refine zQ 4 ?_;rw [decide_eq_false (fun h => hlen (by rw [h]))];refine EvC.ret ⟨rx,_,rfl,rl hSb hH (rfl)⟩
theorem right_ev {s0 : St} {x : D} {l : List Rg} (hx : V.Rows s0 2 x (l.map rangeC)) (hl : l.length <= 1048576) : Ev pv 39 [x] s0 (.bool (rightS l)) s0 := by
 refine Ev.mk1 rfl fi39 rfl rfl rfl ?_;refine zE ?_;obtain ⟨hSb,hF,hH⟩ := ri s0;generalize enterSt .ro s0 = S at *;have hx := Arg.of hx hSb;refine zQ 4 ?_;obtain ⟨_,hev,all,rfl,hperm,hpair⟩ := make_ev (hx.rows hH) (by omega);have hM : MakeIs l (all.foldl joinR []).reverse := make_canon (fun x => hperm.mem_iff) hpair;have hlen := hperm.length_eq;have hfl := flatMap_len l;have hjl := join_pos all;rw [rightS_of hM];refine zQ 4 ?_;refine qv (hev) ?_;refine qv (equal_ev (hx.rows hH) (rangesV_rows _ _) (by omega) (by rw [List.length_reverse]; omega)) ?_;refine zQ 2 ?_;refine EvC.ret ⟨rx,_,rfl,rl hSb hH (rfl)⟩
structure PIns where
 op : Int
 x : Int
 y : Int
 rd : D
 rs : List Rg
def insC (i : PIns) : List D := [.int .i64 i.op, .int .i64 i.x, .int .i64 i.y,i.rd]
def PIns.ok (i : PIns) : Prop := SlD i.rd 2 (i.rs.map rangeC) /\ i.rs.length <= 1048576
def intC (n : Int) : List D := [.int .i64 n]
structure Pg where
 cd : D
 code : List PIns
 sd : D
 starts : List Int
structure Pg.ok (p : Pg) : Prop where
 c : SlD p.cd 4 (p.code.map insC)
 s : SlD p.sd 1 (p.starts.map intC)
 i : ∀ x ∈ p.code,x.ok
 cl : p.code.length <= 1048576
 sl : p.starts.length <= 1048576
def Pg.cs (p : Pg) : List D := [p.cd,p.sd]
def Pg.d (p : Pg) : D := .agg p.cs
theorem ins_get {l : List PIns} {i : Nat} {q : PIns} (h : l[i]? = some q) : (l.map insC)[i]? = some (insC q) := by rw [List.getElem?_map,h]; rfl
theorem int_get {l : List Int} {i : Nat} {q : Int} (h : l[i]? = some q) : (l.map intC)[i]? = some (intC q) := by rw [List.getElem?_map,h]; rfl
def inS (v n : Int) : Bool := decide (v >= 0) && decide (v < n)
noncomputable def shapedS (n ns pc : Nat) (i : PIns) : Bool :=
 if i.op = 1 then i.y == 0 && (decide (((pc + 1 : Nat) : Int) < n) && i.x == 0 && rightS i.rs)
 else i.rs.isEmpty &&
  (if i.op = 2 then inS i.x n && inS i.y n
  else i.y == 0 &&
   (if i.op = 3 then inS i.x n
   else if i.op = 4 then decide (((pc + 1 : Nat) : Int) < n) && inS i.x 10
   else if i.op = 5 \/ i.op = 6 then decide (((pc + 1 : Nat) : Int) < n) && i.x == 0
   else if i.op = 7 then inS i.x ns
   else false))
theorem within_ev {s0 : St} (v n : Int) : Ev pv 24 [.int .i64 v, .int .i64 n] s0 (.bool (inS v n)) s0 := by
 refine Ev.mk1 rfl fi24 rfl rfl rfl ?_;refine zE ?_;obtain ⟨hSb,hF,hH⟩ := ri s0;generalize enterSt .ro s0 = S at *;refine zQ 5 ?_;refine EvC.cutL 4 (.bool (decide (v >= 0) && decide (v < n))) [] ?_ (fun ff tmp => ?_)
 ·refine zQ 3 ?_;refine EvO.two 7 rfl (fun hg2 => ?_) (fun hg2 => ?_)
  ·refine zQ 5 ?_;refine EvO.nil (leafL ?_);refine zG ?_
   all_goals (simp [hg2]; done)
  ·refine zQ 5 ?_;refine EvO.nil (leafL ?_);refine zG ?_
   all_goals (simp [hg2]; done)
 dsimp only [setW,List.foldl,nth,u2,u1];refine EvC.ret ⟨rx,_,rfl,rl hSb hH (rfl)⟩
theorem shaped_ev {s0 : St} {p : Pg} {pc : Nat} {i : PIns} (hp : p.ok) (hi : p.code[pc]? = some i) : Ev pv 23 [p.d, .int .i64 (pc : Nat)] s0 (.bool (shapedS p.code.length p.starts.length pc i)) s0 := by
 refine Ev.mk1 rfl fi23 rfl rfl rfl ?_;refine zE ?_;obtain ⟨hSb,hF,hH⟩ := ri s0;generalize enterSt .ro s0 = S at *;have hc := hp.c.arg s0.bs.length S;have hs := hp.s.arg s0.bs.length S;have hio := hp.i i (List.mem_of_getElem? hi);have hir := hio.1.arg s0.bs.length S;have hil := hio.2;have hcl := hp.cl;have hsl := hp.sl;have hr := ins_get hi;have hlt := lt_get hi;unfold Pg.d;refine zQ 2 ?_;refine qb hH fun k2 st hk2 hH => ?_;dsimp only [u2,u1,u3,u4,setMany,u5,u6,D.cells,Nat.reduceAdd,Pg.cs,insC,intC] at hH;refine zQ 7 ?_;refine qr fun p10 hp10 => ?_;refine EvO.rloadS rfl (ev rfl) (by assumption) rfl (by dsimp only [Fr.put,u1,u2] <;> rfl) ?_;refine qa hH fun k5 st hk5 hH => ?_;refine qS hH at0 fun st hH => ?_;dsimp only [u2,u1,u3,u4,setMany,u5,u6,D.cells,Nat.reduceAdd,Pg.cs,insC,intC] at hH;refine zQ 7 ?_;refine qn ?_;simp only [List.length_map];refine zQ 5 ?_;refine EvC.cutL 36 (.bool (((i.op != 1) && decide ((i.rs.length : Int) > 0)) || ((i.op != 2) && (i.y != 0)))) [18,19,20,21,22,23,24,25,26,27,28,29,30,31,32,33,34,35] ?_ (fun ff tmp => ?_)
 ·refine zQ 4 ?_;refine EvO.two 21 rfl (fun hg3 => ?_) (fun hg3 => ?_)
  ·refine zQ 2 ?_;refine qn ?_ (hg := wi hg3);simp only [List.length_map];refine zQ 3 ?_;refine EvO.two 27 rfl (fun hg9 => ?_) (fun hg9 => ?_)
   ·refine zQ 9 ?_;refine EvO.nil (leafL ?_);refine zG ?_
    all_goals (simp_all; done)
   ·refine zQ 4 ?_;refine EvO.two 31 rfl (fun hg13 => ?_) (fun hg13 => ?_)
    ·refine zQ 3 ?_;refine EvO.pickT (wantD_is rfl rfl rfl hg9) rfl hg13 (by dsimp only [Fr.put,u1,u2] <;> rfl) ?_;refine zQ 1 ?_;refine EvO.nil (leafL ?_);refine zG ?_
     all_goals (simp_all; done)
    ·refine zQ 3 ?_;refine EvO.pickF (wantD_is rfl rfl rfl hg9) rfl hg13 (by dsimp only [Fr.put,u1,u2] <;> rfl) ?_;refine zQ 1 ?_;refine EvO.nil (leafL ?_);refine zG ?_
     all_goals (simp_all; done)
  ·refine zQ 10 ?_;refine EvO.two 31 rfl (fun hg13 => ?_) (fun hg13 => ?_)
   ·refine zQ 5 ?_;refine EvO.nil (leafL ?_);refine zG ?_
    all_goals (simp [hg3,hg13]; done)
   ·refine zQ 5 ?_;refine EvO.nil (leafL ?_);refine zG ?_
    all_goals (simp [hg3,hg13]; done)
 dsimp only [setW,List.foldl,nth,u2,u1];generalize ff 18 = e18;generalize ff 19 = e19;generalize ff 20 = e20;generalize ff 21 = e21;generalize ff 22 = e22;generalize ff 23 = e23;generalize ff 24 = e24;generalize ff 25 = e25;generalize ff 26 = e26;generalize ff 27 = e27;generalize ff 28 = e28;generalize ff 29 = e29;generalize ff 30 = e30;generalize ff 31 = e31;generalize ff 32 = e32;generalize ff 33 = e33;generalize ff 34 = e34;generalize ff 35 = e35;have hlen0 : (i.rs.isEmpty = !decide ((i.rs.length : Int) > 0)) := by cases i.rs <;> simp <;> omega
 have hsh : shapedS p.code.length p.starts.length pc i = if ((i.op != 1) && decide ((i.rs.length : Int) > 0)) || ((i.op != 2) && (i.y != 0)) then false else
   (if i.op = 1 then (decide (((pc + 1 : Nat) : Int) < p.code.length) && i.x == 0) && rightS i.rs
   else if i.op = 2 then inS i.x p.code.length && inS i.y p.code.length
   else if i.op = 3 then inS i.x p.code.length
   else if i.op = 4 then decide (((pc + 1 : Nat) : Int) < p.code.length) && inS i.x 10
   else if i.op = 5 then decide (((pc + 1 : Nat) : Int) < p.code.length) && i.x == 0
   else if i.op = 6 then decide (((pc + 1 : Nat) : Int) < p.code.length) && i.x == 0
   else if i.op = 7 then inS i.x p.starts.length
   else false) := by
  unfold shapedS;rw [hlen0];generalize decide ((i.rs.length : Int) > 0) = b
  by_cases h1 : i.op = 1
  ·have h2 : i.op ≠ 2 := by omega
   simp only [h1]; cases b <;> by_cases hy : i.y = 0 <;> simp [hy]
  ·by_cases h2 : i.op = 2
   ·simp only [h2]; cases b <;> simp
   ·by_cases h56 : i.op = 5
    ·simp only [h56]; cases b <;> by_cases hy : i.y = 0 <;> simp [hy]
    ·cases b <;> by_cases hy : i.y = 0 <;> simp [h1,h2,h56,hy]
 rw [hsh];refine qc (fun h0 => ?_) (fun h0 => ?_) <;> try simp only [cs] at h0
 ·refine zQ 4 ?_;rw [if_pos h0];refine EvC.ret ⟨rx,_,rfl,rl hSb hH (rfl)⟩
 ·rw [if_neg (by rw [h0]; simp)];refine zQ 13 ?_;refine zI (fun h1 => ?_) fun h1 => ?_
  ·rw [if_pos h1];refine qq ?_;refine EvC.cutL 4 (.bool ((decide (((pc + 1 : Nat) : Int) < p.code.length) && (i.x == 0)) && rightS i.rs)) [] ?_ (fun ff tmp => ?_)
   ·refine zQ 2 ?_;refine EvO.two 42 rfl (fun hg1 => ?_) (fun hg1 => ?_)
    ·refine zQ 5 ?_;refine EvO.two 47 rfl (fun hg6 => ?_) (fun hg6 => ?_)
     ·refine zQ 2 ?_;refine qv (right_ev (hir.rows hH) hil) ?_ (hg := wi hg6);refine zQ 2 ?_;refine EvO.nil (leafL ?_);refine zG ?_
      all_goals (simp [hg1,hg6]; done)
     ·refine zQ 5 ?_;refine EvO.nil (leafL ?_);refine zG ?_
      all_goals (simp [hg1,hg6]; done)
    ·refine zQ 10 ?_;refine EvO.nil (leafL ?_);refine zG ?_
     all_goals (simp [hg1]; done)
   dsimp only [setW,List.foldl,nth,u2,u1];refine EvC.ret ⟨rx,_,rfl,rl hSb hH (rfl)⟩
  ·rw [if_neg h1];refine zQ 5 ?_;refine zI (fun h2 => ?_) fun h2 => ?_
   ·rw [if_pos h2];refine qq ?_;refine EvC.cutL 4 (.bool (inS i.x p.code.length && inS i.y p.code.length)) [] ?_ (fun ff tmp => ?_)
    ·refine zQ 4 ?_;refine qn ?_;simp only [List.length_map];refine qv (within_ev _ _) ?_;refine qm ?_;refine EvO.two 60 rfl (fun hg6 => ?_) (fun hg6 => ?_)
     ·refine zQ 4 ?_;refine qn ?_ (hg := wi hg6);simp only [List.length_map];refine qv (within_ev _ _) ?_ (hg := wi hg6);refine zQ 2 ?_;refine EvO.nil (leafL ?_);refine zG ?_
      all_goals (simp [hg6]; done)
     ·refine zQ 8 ?_;refine EvO.nil (leafL ?_);refine zG ?_
      all_goals (simp [hg6]; done)
    dsimp only [setW,List.foldl,nth,u2,u1];refine EvC.ret ⟨rx,_,rfl,rl hSb hH (rfl)⟩
   ·rw [if_neg h2];refine zQ 5 ?_;refine zI (fun h3 => ?_) fun h3 => ?_
    ·rw [if_pos h3];refine zQ 6 ?_;refine qn ?_;simp only [List.length_map];refine qv (within_ev _ _) ?_;refine zQ 2 ?_;refine EvC.ret ⟨rx,_,rfl,rl hSb hH (rfl)⟩
    ·rw [if_neg h3];refine zQ 5 ?_;refine zI (fun h4 => ?_) fun h4 => ?_
     ·rw [if_pos h4];refine qq ?_;refine EvC.cutL 4 (.bool (decide (((pc + 1 : Nat) : Int) < p.code.length) && inS i.x 10)) [] ?_ (fun ff tmp => ?_)
      ·refine zQ 2 ?_;refine EvO.two 79 rfl (fun hg1 => ?_) (fun hg1 => ?_)
       ·refine zQ 2 ?_;refine qv (within_ev _ _) ?_ (hg := wi hg1);refine zQ 2 ?_;refine EvO.nil (leafL ?_);refine zG ?_
        all_goals (simp [hg1]; done)
       ·refine zQ 5 ?_;refine EvO.nil (leafL ?_);refine zG ?_
        all_goals (simp [hg1]; done)
      dsimp only [setW,List.foldl,nth,u2,u1];refine EvC.ret ⟨rx,_,rfl,rl hSb hH (rfl)⟩
     ·rw [if_neg h4];refine zQ 6 ?_
      by_cases h5 : i.op = 5
      ·rw [if_pos h5];refine qD rfl (by simp [h5]) ?_;refine zQ 1 ?_;refine qD rfl (by simp [h5]) ?_;refine qq ?_;refine EvC.cutL 4 (.bool (decide (((pc + 1 : Nat) : Int) < p.code.length) && (i.x == 0))) [] ?_ (fun ff tmp => ?_)
       ·refine zQ 2 ?_;refine EvO.two 88 rfl (fun hg1 => ?_) (fun hg1 => ?_)
        ·refine zQ 5 ?_;refine EvO.nil (leafL ?_);refine zG ?_
         all_goals (simp [hg1]; done)
        ·refine zQ 5 ?_;refine EvO.nil (leafL ?_);refine zG ?_
         all_goals (simp [hg1]; done)
       dsimp only [setW,List.foldl,nth,u2,u1];refine EvC.ret ⟨rx,_,rfl,rl hSb hH (rfl)⟩
      ·rw [if_neg h5];refine qE rfl (by simp [h5]) ?_;refine zQ 4 ?_;refine zI (fun h6 => ?_) fun h6 => ?_
       ·rw [if_pos h6];refine qq ?_;refine EvC.cutL 4 (.bool (decide (((pc + 1 : Nat) : Int) < p.code.length) && (i.x == 0))) [] ?_ (fun ff tmp => ?_)
        ·refine zQ 2 ?_;refine EvO.two 88 rfl (fun hg1 => ?_) (fun hg1 => ?_)
         ·refine zQ 5 ?_;refine EvO.nil (leafL ?_);refine zG ?_
          all_goals (simp [hg1]; done)
         ·refine zQ 5 ?_;refine EvO.nil (leafL ?_);refine zG ?_
          all_goals (simp [hg1]; done)
        dsimp only [setW,List.foldl,nth,u2,u1];refine EvC.ret ⟨rx,_,rfl,rl hSb hH (rfl)⟩
       ·rw [if_neg h6];refine zQ 5 ?_;refine zI (fun h7 => ?_) fun h7 => ?_
        ·rw [if_pos h7];refine zQ 6 ?_;refine qn ?_;simp only [List.length_map];refine qv (within_ev _ _) ?_;refine zQ 2 ?_;refine EvC.ret ⟨rx,_,rfl,rl hSb hH (rfl)⟩
        ·rw [if_neg h7];refine zQ 5 ?_;refine EvC.ret ⟨rx,_,rfl,rl hSb hH (rfl)⟩
def ixF_Jh (fr : Go.V.Fr) (k : Nat) : Go.V.D := Go.V.nth .junk fr.loc k
def boolC (b : Bool) : List D := [.bool b]
theorem bool_get {l : List Bool} {i : Nat} {q : Bool} (h : l[i]? = some q) : (l.map boolC)[i]? = some (boolC q) := by rw [List.getElem?_map,h]; rfl
theorem bool_plain (l : List Bool) : ∀ e ∈ l.map boolC, ∀ d ∈ e,plainC d = true := by
 intro e he d hd;obtain ⟨x,_,rfl⟩ := List.mem_map.1 he;simp only [boolC,List.mem_cons,List.not_mem_nil,or_false] at hd;subst hd; rfl
theorem bool_len (l : List Bool) : ∀ e ∈ l.map boolC,e.length = 1 := by
 intro e he; obtain ⟨x,_,rfl⟩ := List.mem_map.1 he; rfl
def boolsV (l : List Bool) : D := .sl ((l.map boolC).map (elD 1))
theorem boolsV_sl (l : List Bool) : SlD (boolsV l) 1 (l.map boolC) := SlD.frozen (bool_len l) (bool_plain l)
theorem int_plain (l : List Int) : ∀ e ∈ l.map intC, ∀ d ∈ e,plainC d = true := by
 intro e he d hd;obtain ⟨x,_,rfl⟩ := List.mem_map.1 he;simp only [intC,List.mem_cons,List.not_mem_nil,or_false] at hd;subst hd; rfl
theorem int_len (l : List Int) : ∀ e ∈ l.map intC,e.length = 1 := by
 intro e he; obtain ⟨x,_,rfl⟩ := List.mem_map.1 he; rfl
def intsV (l : List Int) : D := .sl ((l.map intC).map (elD 1))
theorem intsV_sl (l : List Int) : SlD (intsV l) 1 (l.map intC) := SlD.frozen (int_len l) (int_plain l)
def nextS (pc : Nat) (i : PIns) : List Int :=
 if i.op = 2 then [i.x,i.y] else if i.op = 3 then [i.x] else if i.op = 7 then [] else [((pc + 1 : Nat) : Int)]
def closedS (code : List PIns) : Prop := ∀ pc i,code[pc]? = some i -> ∀ v ∈ nextS pc i,0 <= v /\ v < code.length
theorem shaped_next {n ns pc : Nat} {i : PIns} (h : shapedS n ns pc i = true) : ∀ v ∈ nextS pc i,0 <= v /\ v < n := by
 intro v hv
 have inS_iff : ∀ a b : Int,inS a b = true -> 0 <= a /\ a < b := fun a b h => by
  unfold inS at h; simp only [Bool.and_eq_true,decide_eq_true_eq] at h; exact ⟨h.1,h.2⟩
 unfold shapedS at h;unfold nextS at hv
 split at h
 ·rename_i h1;rw [if_neg (by omega),if_neg (by omega),if_neg (by omega)] at hv;simp only [Bool.and_eq_true,decide_eq_true_eq] at h;simp only [List.mem_cons,List.not_mem_nil,or_false] at hv;subst hv; omega
 ·simp only [Bool.and_eq_true] at h;obtain ⟨_,h⟩ := h
  split at h
  ·rename_i h2;rw [if_pos h2] at hv;simp only [Bool.and_eq_true] at h;simp only [List.mem_cons,List.not_mem_nil,or_false] at hv
   rcases hv with rfl | rfl
   ·exact inS_iff _ _ h.1
   ·exact inS_iff _ _ h.2
  ·rename_i h2;rw [if_neg h2] at hv;simp only [Bool.and_eq_true] at h;obtain ⟨_,h⟩ := h
   split at h
   ·rename_i h3;rw [if_pos h3] at hv;simp only [List.mem_cons,List.not_mem_nil,or_false] at hv;subst hv; exact inS_iff _ _ h
   ·rename_i h3;rw [if_neg h3] at hv
    split at h
    ·rename_i h4;rw [if_neg (by omega)] at hv;simp only [Bool.and_eq_true,decide_eq_true_eq] at h;simp only [List.mem_cons,List.not_mem_nil,or_false] at hv;subst hv; omega
    ·split at h
     ·rename_i h5;rw [if_neg (by omega)] at hv;simp only [Bool.and_eq_true,decide_eq_true_eq] at h;simp only [List.mem_cons,List.not_mem_nil,or_false] at hv;subst hv; omega
     ·split at h
      ·rename_i h7;rw [if_pos h7] at hv; cases hv
      ·cases h
def dfs (code : List PIns) : Nat -> List Bool -> List Int -> List Bool
 | 0,seen,_ => seen
 | _ + 1,seen, [] => seen
 | f + 1,seen,v :: stk => match seen[v.toNat]? with
  | some false => match code[v.toNat]? with
   | some i => dfs code f (seen.set v.toNat true) ((nextS v.toNat i).reverse ++ stk)
   | none => seen
  | _ => dfs code f seen stk
def reachS (code : List PIns) (start : Int) : List Bool := dfs code (3 * code.length + 1) (List.replicate code.length false) [start]
theorem dfs_len (code : List PIns) : ∀ (f : Nat) (seen : List Bool) (stk : List Int),(dfs code f seen stk).length = seen.length
 | 0,_,_ => rfl
 | _ + 1,_, [] => rfl
 | f + 1,seen,v :: stk => by
  unfold dfs
  split
  ·split
   ·rw [dfs_len code f]; simp
   ·rfl
  ·exact dfs_len code f seen stk
theorem reachS_len (code : List PIns) (s : Int) : (reachS code s).length = code.length := by
 unfold reachS; rw [dfs_len]; simp
theorem count_set {seen : List Bool} {k : Nat} (h : seen[k]? = some false) : (seen.set k true).count false + 1 = seen.count false := by
 induction seen generalizing k with
 | nil => simp at h
 | cons b l ih =>
  cases k with
  | zero => simp at h; subst h; simp
  | succ k =>
   have := ih (k := k) (by simpa using h);simp only [List.set_cons_succ,List.count_cons];omega
theorem next_len (pc : Nat) (i : PIns) : (nextS pc i).length <= 2 := by
 unfold nextS; split
 ·simp
 ·split
  ·simp
  ·split <;> simp
theorem stk_last (v : Int) (r : List Int) : ((v :: r).reverse.map intC)[r.length]? = some (intC v) := by
 rw [List.getElem?_map,List.reverse_cons,List.getElem?_append_right (by simp)]; simp
theorem stk_pop (v : Int) (r : List Int) : (((v :: r).reverse.map intC).take r.length).drop 0 = r.reverse.map intC := by
 rw [List.reverse_cons,List.map_append,List.drop_zero,List.take_left' (by simp)]
theorem from_ev {s0 : St} {cd : D} {code : List PIns} {start : Int} (hcd : SlD cd 4 (code.map insC)) (hlen : code.length <= 1048576) (hcl : closedS code) (hst : 0 <= start /\ start < code.length) : Ev pv 25 [cd, .int .i64 start] s0 (boolsV (reachS code start)) s0 := by
 refine Ev.mk1 rfl fi25 rfl rfl rfl ?_;refine zE ?_;obtain ⟨hSb,hF,hH⟩ := ri s0;generalize enterSt .ro s0 = S at *;have hc := hcd.arg s0.bs.length S;refine zQ 7 ?_;refine qn ?_;simp only [List.length_map];refine EvO.hmake (s := 1) hH rfl rfl rfl rfl rfl rfl rfl rfl (Nat.le_of_ble_eq_true rfl) (by omega) (fun _ => by dsimp only [Fr.put,u1,u2] <;> rfl) (fun k11 st hk11 hH => ?_);refine zQ 5 ?_;refine qh (s := 1) (vs := [_]) hH fun k13 st hk13 hH => ?_;refine zQ 4 ?_;refine EvC.loop (fun mm fr st => ∃ (y z : D) (seen : List Bool) (stk : List Int),fr.clean = ⟨41, [cd,ixF_Jh fr 1,ixF_Jh fr 2,ixF_Jh fr 3, .nul,y,z,ixF_Jh fr 7,ixF_Jh fr 8,ixF_Jh fr 9,ixF_Jh fr 10,ixF_Jh fr 11,ixF_Jh fr 12,ixF_Jh fr 13,ixF_Jh fr 14,ixF_Jh fr 15,ixF_Jh fr 16,ixF_Jh fr 17,ixF_Jh fr 18,ixF_Jh fr 19,ixF_Jh fr 20,ixF_Jh fr 21,ixF_Jh fr 22,ixF_Jh fr 23,ixF_Jh fr 24,ixF_Jh fr 25,ixF_Jh fr 26,ixF_Jh fr 27,ixF_Jh fr 28,ixF_Jh fr 29,ixF_Jh fr 30,ixF_Jh fr 31,ixF_Jh fr 32,ixF_Jh fr 33,ixF_Jh fr 34,ixF_Jh fr 35,ixF_Jh fr 36,ixF_Jh fr 37,ixF_Jh fr 38,ixF_Jh fr 39,ixF_Jh fr 40], []⟩ /\ Has s0.bs.length S st [.lst z 1 (stk.reverse.map intC), .lst y 1 (seen.map boolC)] /\ (dfs code mm seen stk = reachS code start) /\ (3 * seen.count false + stk.length <= mm) /\ (seen.length = code.length) /\ (∀ v ∈ stk,0 <= v /\ v < (code.length : Int)) /\ (mm <= 3 * code.length + 1)) (3 * code.length + 1) ?_ ?_
 ·exact ⟨_,_,List.replicate code.length false, [start],rfl,(by rw [List.map_replicate]; exact hH),rfl,by simp,by simp,by simpa using hst,by omega⟩
 rintro mm fr st ⟨y,z,seen,stk,hfr,hH,hd,hm,hsl,hsk,hmm⟩;rw [hfr];clear hfr;generalize ixF_Jh fr = ee;clear fr
 rcases stk with _ | ⟨v,stk⟩
 ·refine zQ 4 ?_;refine qn ?_ (hR := hH.rows at0);simp only [List.length_map,List.length_nil,List.length_reverse];refine zQ 2 ?_;refine EvC.cond (v := false) (by dsimp only [Fr.ev,Fr.get,nth,V.look]; rfl) (fun h => by cases h) (fun _ => ?_);refine zQ 6 ?_;have hfin : seen = reachS code start := by rw [<- hd]; cases mm <;> rfl
  rw [<- hfin];refine EvC.ret ⟨rx,_,rfl,rl hSb hH ?_⟩;exact hH.freeze at1 (bool_plain _) (n := 15) (by decide)
 ·have hv := hsk v (List.mem_cons_self ..);obtain ⟨k,rfl⟩ := Int.eq_ofNat_of_zero_le hv.1;have hk : k < code.length := by omega
  simp only [List.length_cons] at hm
  obtain ⟨mm,rfl⟩ : ∃ m',mm = m' + 1 := ⟨mm - 1,by omega⟩
  obtain ⟨b,hb⟩ : ∃ b,seen[k]? = some b := ⟨seen[k]'(by omega),List.getElem?_eq_getElem _⟩
  obtain ⟨i,hi⟩ : ∃ i,code[k]? = some i := ⟨code[k]'(by omega),List.getElem?_eq_getElem _⟩
  have hr1 := stk_last (k : Int) stk;have hr2 := bool_get hb;have hr3 := ins_get hi;refine zQ 4 ?_;refine qn ?_ (hR := hH.rows at0);simp only [List.length_map,List.length_cons,List.length_reverse];refine zQ 2 ?_;refine qD rfl (by simp) ?_;refine zQ 6 ?_;refine qn ?_ (hR := hH.rows at0);simp only [List.length_map,List.length_cons,List.length_reverse];refine EvO.subZ (z := ((stk.length : Nat) : Int)) rfl (ev rfl) (ev rfl) (by (try simp only [List.length_reverse,List.length_cons,List.length_nil,List.length_append,List.length_map,List.length_set]); rw [wrap_i64 (by omega) (by omega)] <;> omega) (by dsimp only [Fr.put,u1,u2] <;> rfl) ?_;refine qi hH at0 fun p21 hp21 => ?_;refine zQ 7 ?_;refine qn ?_ (hR := hH.rows at0);simp only [List.length_map,List.length_cons,List.length_reverse];refine EvO.subZ (z := ((stk.length : Nat) : Int)) rfl (ev rfl) (ev rfl) (by (try simp only [List.length_reverse,List.length_cons,List.length_nil,List.length_append,List.length_map,List.length_set]); rw [wrap_i64 (by omega) (by omega)] <;> omega) (by dsimp only [Fr.put,u1,u2] <;> rfl) ?_;refine EvO.oslice hH rfl (ev rfl) (by exact at0) rfl rfl (bounds_to (by simp only [List.length_map,List.length_reverse,List.length_cons,List.length_append,List.length_nil,List.length_take,List.length_drop,List.length_set,List.length_replicate]; omega)) ⟨(by omega),(by simp only [List.length_map,List.length_reverse,List.length_cons,List.length_append,List.length_nil,List.length_take,List.length_drop,List.length_set,List.length_replicate]; omega)⟩ (fun _ => by dsimp only [Fr.put,u1,u2] <;> rfl) (fun y27 hH => ?_);refine zQ 2 ?_;dsimp only [u2] at hH;rw [stk_pop] at hH;have hst : ∀ w ∈ stk,0 <= w /\ w < (code.length : Int) := fun w hw => hsk w (List.mem_cons_of_mem _ hw);refine zQ 5 ?_;refine qi hH at1 fun p30 hp30 => ?_;refine zQ 2 ?_
  cases b with
  | true =>
   refine zQ 2 ?_;simp only [dfs,Int.toNat_natCast,hb] at hd;exact ⟨mm,by omega,⟨_,_,seen,stk,rfl,hH,hd,by omega,hsl,hst,by omega⟩⟩
  | false =>
   have hcnt := count_set hb;have hset : (seen.set k true).map boolC = (seen.map boolC).set k [.bool true] := by rw [List.map_set]; rfl
   simp only [dfs,Int.toNat_natCast,hb,hi] at hd;have hnx := hcl k i hi;have hnl := next_len k i
   have hsk2 : ∀ w ∈ (nextS k i).reverse ++ stk,0 <= w /\ w < (code.length : Int) := fun w hw => by
    rcases List.mem_append.1 hw with hw | hw
    ·exact hnx w (List.mem_reverse.1 hw)
    ·exact hst w hw
   have hrev : (((nextS k i).reverse ++ stk).reverse).map intC = stk.reverse.map intC ++ (nextS k i).map intC := by
    rw [List.reverse_append,List.reverse_reverse,List.map_append]
   refine zQ 6 ?_;refine qi hH at1 fun p34 hp34 => ?_;refine EvO.ostore hH rfl (ev rfl) (ev rfl) (by assumption) rfl rfl (by exact at1) (by assumption) (Nat.le_of_ble_eq_true rfl) (by exact .inl hF) (fun st hH => ?_);dsimp only [u2,u1,u3,u4,setMany,u5,u6,D.cells,Nat.reduceAdd,insC,intC,boolC] at hH;refine zQ 5 ?_;refine qr fun p37 hp37 => ?_;refine EvO.rloadS rfl (ev rfl) (by assumption) rfl (by dsimp only [Fr.put,u1,u2] <;> rfl) ?_;refine qa hH fun k8 st hk8 hH => ?_;refine qS hH at0 fun st hH => ?_;dsimp only [u2,u1,u3,u4,setMany,u5,u6,D.cells,Nat.reduceAdd,insC,intC,boolC] at hH;refine zQ 6 ?_;refine EvC.merge (fun fr st => ∃ (z : D) (tmp : List (Nat × D)),fr = ⟨41, [cd,ixF_Jh fr 1,ixF_Jh fr 2,ixF_Jh fr 3, .nul,y,z,ixF_Jh fr 7,ixF_Jh fr 8,ixF_Jh fr 9,ixF_Jh fr 10,ixF_Jh fr 11,ixF_Jh fr 12,ixF_Jh fr 13,ixF_Jh fr 14,ixF_Jh fr 15,ixF_Jh fr 16,ixF_Jh fr 17,ixF_Jh fr 18,ixF_Jh fr 19,ixF_Jh fr 20,ixF_Jh fr 21,ixF_Jh fr 22,ixF_Jh fr 23,ixF_Jh fr 24,ixF_Jh fr 25,ixF_Jh fr 26,ixF_Jh fr 27,ixF_Jh fr 28,ixF_Jh fr 29,ixF_Jh fr 30,ixF_Jh fr 31,ixF_Jh fr 32,ixF_Jh fr 33,ixF_Jh fr 34,ixF_Jh fr 35,ixF_Jh fr 36,ixF_Jh fr 37,ixF_Jh fr 38,ixF_Jh fr 39,ixF_Jh fr 40],tmp⟩ /\ Has s0.bs.length S st [.lst z 1 (stk.reverse.map intC ++ (nextS k i).map intC), .lst y 1 ((seen.map boolC).set k [.bool true])]) ?_ ?_
   ·refine zQ 6 ?_;refine zI (fun h2 => ?_) fun h2 => ?_
    ·have : nextS k i = [i.x,i.y] := by unfold nextS; rw [if_pos h2]
     rw [this];refine zQ 6 ?_;refine qh (s := 1) (vs := [_,_]) hH fun k53 st hk53 hH => ?_;refine EvO.happend (s := 1) hH rfl (ev rfl) (ev rfl) (by exact at2) (by exact hH.rows (by exact at0)) rfl rfl rfl rfl rfl rfl rfl ⟨(Nat.le_of_ble_eq_true rfl),(Nat.le_of_ble_eq_true rfl)⟩ (fun _ => (put_T rfl _)) (by simp only [List.length_cons,List.length_nil,List.length_map,List.length_reverse] <;> omega) (by exact .inl hF) (fun x54 st hH => ?_);dsimp only [u2,u1,u3,u4,setMany,u5,u6,D.cells,Nat.reduceAdd,insC,intC,boolC] at hH;refine zQ 2 ?_;exact ⟨_,_,rfl,(by have := hH.drop 2; exact this)⟩
    ·refine zQ 5 ?_;refine zI (fun h3 => ?_) fun h3 => ?_
     ·have : nextS k i = [i.x] := by unfold nextS; rw [if_neg h2,if_pos h3]
      rw [this];refine zQ 4 ?_;refine qh (s := 1) (vs := [_]) hH fun k60 st hk60 hH => ?_;refine EvO.happend (s := 1) hH rfl (ev rfl) (ev rfl) (by exact at2) (by exact hH.rows (by exact at0)) rfl rfl rfl rfl rfl rfl rfl ⟨(Nat.le_of_ble_eq_true rfl),(Nat.le_of_ble_eq_true rfl)⟩ (fun _ => (put_T rfl _)) (by simp only [List.length_cons,List.length_nil,List.length_map,List.length_reverse] <;> omega) (by exact .inl hF) (fun x61 st hH => ?_);dsimp only [u2,u1,u3,u4,setMany,u5,u6,D.cells,Nat.reduceAdd,insC,intC,boolC] at hH;refine zQ 2 ?_;exact ⟨_,_,rfl,(by have := hH.drop 2; exact this)⟩
     ·refine zQ 5 ?_;refine zI (fun h7 => ?_) fun h7 => ?_
      ·have : nextS k i = [] := by unfold nextS; rw [if_neg h2,if_neg h3,if_pos h7]
       rw [this,List.map_nil,List.append_nil];refine zQ 1 ?_;exact ⟨_,_,rfl,(by have := hH.drop 1; exact this)⟩
      ·have : nextS k i = [((k + 1 : Nat) : Int)] := by unfold nextS; rw [if_neg h2,if_neg h3,if_neg h7]
       rw [this];refine zQ 4 ?_;refine qh (s := 1) (vs := [_]) hH fun k44 st hk44 hH => ?_;refine EvO.happend (s := 1) hH rfl (ev rfl) (ev rfl) (by exact at2) (by exact hH.rows (by exact at0)) rfl rfl rfl rfl rfl rfl rfl ⟨(Nat.le_of_ble_eq_true rfl),(Nat.le_of_ble_eq_true rfl)⟩ (fun _ => (put_T rfl _)) (by simp only [List.length_cons,List.length_nil,List.length_map,List.length_reverse] <;> omega) (by exact .inl hF) (fun x45 st hH => ?_);dsimp only [u2,u1,u3,u4,setMany,u5,u6,D.cells,Nat.reduceAdd,insC,intC,boolC] at hH;refine zQ 2 ?_;exact ⟨_,_,rfl,(by have := hH.drop 2; exact this)⟩
   ·rintro fr st ⟨z,tmp,hfr,hH⟩;rw [hfr];clear hfr;generalize ixF_Jh fr = ee;clear fr;exact ⟨mm,by omega,⟨y,z,seen.set k true,(nextS k i).reverse ++ stk,rfl,(by rw [hrev,hset]; exact hH),hd,by simp only [List.length_append,List.length_reverse]; omega,by simp only [List.length_set]; exact hsl,hsk2,by omega⟩⟩
def ixF_Jj (fr : Go.V.Fr) (k : Nat) : Go.V.D := Go.V.nth .junk fr.loc k
noncomputable def dec (q : Prop) : Bool := @decide q (Classical.propDecidable q)
theorem dec_yes {q : Prop} (h : q) : dec q = true := @decide_eq_true q (Classical.propDecidable q) h
theorem dec_no {q : Prop} (h : ¬ q) : dec q = false := @decide_eq_false q (Classical.propDecidable q) h
def ownMatch (p : Pg) (r : Nat) (s : Int) (n : Nat) : Prop := ∀ pc i,pc < n -> (reachS p.code s)[pc]? = some true -> p.code[pc]? = some i -> i.op = 7 -> i.x = (r : Int)
structure RightQ (p : Pg) : Prop where
 cl : p.code.length <= 400
 sl : p.starts.length <= 8
 sh : ∀ pc i,p.code[pc]? = some i -> shapedS p.code.length p.starts.length pc i = true
 st : ∀ v ∈ p.starts,0 <= v /\ v < (p.code.length : Int)
 fo : ∀ r s,p.starts[r]? = some s -> ownMatch p r s p.code.length
theorem closed_of {p : Pg} (h : ∀ pc i,p.code[pc]? = some i -> shapedS p.code.length p.starts.length pc i = true) : closedS p.code :=
 fun pc i hi => shaped_next (h pc i hi)
theorem RightQ.closed {p : Pg} (h : RightQ p) : closedS p.code := closed_of h.sh
theorem inS_iff {a b : Int} : inS a b = true ↔ 0 <= a /\ a < b := by
 unfold inS; simp only [Bool.and_eq_true,decide_eq_true_eq,ge_iff_le]
theorem checkRight_ev {s0 : St} {p : Pg} (hp : p.ok) : Ev pv 11 [p.d] s0 (.bool (dec (RightQ p))) s0 := by
 refine Ev.mk1 rfl fi11 rfl rfl rfl ?_;refine zE ?_;obtain ⟨hSb,hF,hH⟩ := ri s0;generalize enterSt .ro s0 = S at *;have hc := hp.c.arg s0.bs.length S;have hs := hp.s.arg s0.bs.length S;have hcd := hp.c;have hlen := hp.cl;have hsl0 := hp.sl;unfold Pg.d;refine zQ 2 ?_;refine qb hH fun k1 st hk1 hH => ?_;dsimp only [u2,u1,u3,u4,setMany,u5,u6,D.cells,Nat.reduceAdd,Pg.cs,insC,intC,boolC] at hH;refine zQ 4 ?_;refine EvC.cutL 17 (.bool (decide ((p.code.length : Int) > 400) || decide ((p.starts.length : Int) > 8))) [8,9,10,11,12,13,14,15,16] ?_ (fun ff tmp => ?_)
 ·refine zQ 2 ?_;refine qn ?_;simp only [List.length_map];refine zQ 2 ?_;refine EvO.two 12 rfl (fun hg4 => ?_) (fun hg4 => ?_)
  ·refine zQ 5 ?_;refine EvO.nil (leafL ?_);refine zG ?_
   all_goals (simp [hg4]; done)
  ·refine zQ 2 ?_;refine qn ?_ (hg := wi hg4);simp only [List.length_map];refine zQ 2 ?_;refine EvO.nil (leafL ?_);refine zG ?_
   all_goals (simp [hg4]; done)
 dsimp only [setW,List.foldl,nth,u2,u1];generalize ff 8 = e8;generalize ff 9 = e9;generalize ff 10 = e10;generalize ff 11 = e11;generalize ff 12 = e12;generalize ff 13 = e13;generalize ff 14 = e14;generalize ff 15 = e15;generalize ff 16 = e16;refine qc (fun h0 => ?_) (fun h0 => ?_) <;> try simp only [cs] at h0
 ·rw [dec_no (fun h => by have := h.cl; have := h.sl; simp at h0; omega)];refine zQ 4 ?_;refine EvC.ret ⟨rx,_,rfl,rl hSb hH (rfl)⟩
 ·have h0 : p.code.length <= 400 /\ p.starts.length <= 8 := by simp at h0; omega
  refine zQ 6 ?_;refine qn ?_;simp only [List.length_map];refine zQ 3 ?_;refine EvC.loop (fun mm fr st => ∃ (i : Nat),fr.clean = ⟨49, [ixF_Jj fr 0, .ptr k1 0 0, .bool false,ixF_Jj fr 3,ixF_Jj fr 4,ixF_Jj fr 5,ixF_Jj fr 6,ixF_Jj fr 7,ixF_Jj fr 8,ixF_Jj fr 9,ixF_Jj fr 10,ixF_Jj fr 11,ixF_Jj fr 12,ixF_Jj fr 13,ixF_Jj fr 14,ixF_Jj fr 15,ixF_Jj fr 16,ixF_Jj fr 17,ixF_Jj fr 18,ixF_Jj fr 19, .int .i64 (p.code.length : Nat), .int .i64 (i : Nat),ixF_Jj fr 22,ixF_Jj fr 23,ixF_Jj fr 24,ixF_Jj fr 25,ixF_Jj fr 26,ixF_Jj fr 27,ixF_Jj fr 28,ixF_Jj fr 29,ixF_Jj fr 30,ixF_Jj fr 31,ixF_Jj fr 32,ixF_Jj fr 33,ixF_Jj fr 34,ixF_Jj fr 35,ixF_Jj fr 36,ixF_Jj fr 37,ixF_Jj fr 38,ixF_Jj fr 39,ixF_Jj fr 40,ixF_Jj fr 41,ixF_Jj fr 42,ixF_Jj fr 43,ixF_Jj fr 44,ixF_Jj fr 45,ixF_Jj fr 46,ixF_Jj fr 47,ixF_Jj fr 48], []⟩ /\ Has s0.bs.length S st [.box k1 (.mem 0 false [p.cd,p.sd])] /\ (i + mm = p.code.length) /\ (∀ pc q,pc < i -> p.code[pc]? = some q -> shapedS p.code.length p.starts.length pc q = true)) (p.code.length) ?_ ?_
  ·exact ⟨0,rfl,hH,by omega,by intro pc q h; omega⟩
  rintro mm fr st ⟨i,hfr,hH,hi,hsh⟩;rw [hfr];clear hfr;generalize ixF_Jj fr = ee;clear fr;refine zQ 5 ?_;refine zP (fun h1 => ?_) fun h1 => ?_
  ·refine zQ 1 ?_
   obtain ⟨q,hq⟩ : ∃ q,p.code[i]? = some q := ⟨p.code[i]'(by omega),List.getElem?_eq_getElem _⟩
   refine zQ 9 ?_;refine EvO.hloadS (m := 2) hH rfl (ev rfl) (by exact at0) (by dsimp only [List.drop_succ_cons,List.drop_zero,List.take_succ_cons,List.take_zero,Pg.cs,insC,intC,boolC] <;> rfl) rfl rfl (by dsimp only [Fr.put,u1,u2] <;> rfl) ?_;refine qm ?_;refine qv (shaped_ev (p := p) hp hq) ?_;refine zQ 2 ?_;refine EvC.cond (by rfl) (fun h2 => ?_) (fun h2 => ?_) <;> try simp only [Bool.not_eq_true',Bool.not_eq_false'] at h2
   ·rw [dec_no (fun h => by have := h.sh i q hq; rw [this] at h2; cases h2)];refine zQ 4 ?_;refine EvC.ret ⟨rx,_,rfl,rl hSb hH (rfl)⟩
   ·refine zQ 5 ?_;refine ⟨mm - 1,by omega,⟨i + 1,rfl,hH,by omega,?_⟩⟩;intro pc q' hpc hq'
    by_cases he : pc = i
    ·subst he; rw [hq] at hq'; cases hq'; simpa using h2
    ·exact hsh pc q' (by omega) hq'
  ·refine zQ 1 ?_;have hsh : ∀ pc q,p.code[pc]? = some q -> shapedS p.code.length p.starts.length pc q = true := fun pc q hq => hsh pc q (by have := lt_get hq; omega) hq;have hcl := closed_of hsh;refine zQ 5 ?_;refine qn ?_;simp only [List.length_map];refine zQ 3 ?_;refine EvC.loop (fun mm fr st => ∃ (r : Nat),fr.clean = ⟨49, [ixF_Jj fr 0, .ptr k1 0 0, .bool false,ixF_Jj fr 3,ixF_Jj fr 4,ixF_Jj fr 5,ixF_Jj fr 6,ixF_Jj fr 7,ixF_Jj fr 8,ixF_Jj fr 9,ixF_Jj fr 10,ixF_Jj fr 11,ixF_Jj fr 12,ixF_Jj fr 13,ixF_Jj fr 14,ixF_Jj fr 15,ixF_Jj fr 16,ixF_Jj fr 17,ixF_Jj fr 18,ixF_Jj fr 19,ixF_Jj fr 20,ixF_Jj fr 21,ixF_Jj fr 22,ixF_Jj fr 23,ixF_Jj fr 24,ixF_Jj fr 25,ixF_Jj fr 26,ixF_Jj fr 27,ixF_Jj fr 28,ixF_Jj fr 29,p.sd, .int .i64 (p.starts.length : Nat), .int .i64 (r : Nat),ixF_Jj fr 33,ixF_Jj fr 34,ixF_Jj fr 35,ixF_Jj fr 36,ixF_Jj fr 37,ixF_Jj fr 38,ixF_Jj fr 39,ixF_Jj fr 40,ixF_Jj fr 41,ixF_Jj fr 42,ixF_Jj fr 43,ixF_Jj fr 44,ixF_Jj fr 45,ixF_Jj fr 46,ixF_Jj fr 47,ixF_Jj fr 48], []⟩ /\ Has s0.bs.length S st [.box k1 (.mem 0 false [p.cd,p.sd])] /\ (r + mm = p.starts.length) /\ (∀ r' s,r' < r -> p.starts[r']? = some s -> (0 <= s /\ s < (p.code.length : Int)) /\ ownMatch p r' s p.code.length)) (p.starts.length) ?_ ?_
   ·exact ⟨0,rfl,hH,by omega,by intro pc q h; omega⟩
   rintro mm fr st ⟨r,hfr,hH,hi,hok⟩;rw [hfr];clear hfr;generalize ixF_Jj fr = ee;clear fr;refine zQ 5 ?_;refine zP (fun h3 => ?_) fun h3 => ?_
   ·refine zQ 1 ?_
    obtain ⟨s,hs1⟩ : ∃ s,p.starts[r]? = some s := ⟨p.starts[r]'(by omega),List.getElem?_eq_getElem _⟩
    have hr0 := int_get hs1;refine zQ 5 ?_;refine qr fun p35 hp35 => ?_;refine zQ 10 ?_;refine qn ?_;simp only [List.length_map];refine qv (within_ev _ _) ?_;refine zQ 2 ?_;refine EvC.cond (by rfl) (fun h4 => ?_) (fun h4 => ?_) <;> try simp only [Bool.not_eq_true',Bool.not_eq_false'] at h4
    ·rw [dec_no (fun h => by have := inS_iff.2 (h.st s (List.mem_of_getElem? hs1)); rw [this] at h4; cases h4)];refine zQ 4 ?_;refine EvC.ret ⟨rx,_,rfl,rl hSb hH (rfl)⟩
    ·have hsin := inS_iff.1 (show inS s p.code.length = true by simpa using h4);refine zQ 1 ?_;have hrl := reachS_len p.code s;have hra := (boolsV_sl (reachS p.code s)).arg s0.bs.length S;refine zQ 5 ?_;refine qv (from_ev hcd hlen hcl hsin) ?_;refine qn ?_;simp only [List.length_map];refine zQ 3 ?_;refine EvC.loop (fun mm fr st => ∃ (i : Nat),fr.clean = ⟨49, [ixF_Jj fr 0, .ptr k1 0 0, .bool false,ixF_Jj fr 3, .int .i64 (r : Nat),ixF_Jj fr 5,ixF_Jj fr 6,ixF_Jj fr 7,ixF_Jj fr 8,ixF_Jj fr 9,ixF_Jj fr 10,ixF_Jj fr 11,ixF_Jj fr 12,ixF_Jj fr 13,ixF_Jj fr 14,ixF_Jj fr 15,ixF_Jj fr 16,ixF_Jj fr 17,ixF_Jj fr 18,ixF_Jj fr 19,ixF_Jj fr 20,ixF_Jj fr 21,ixF_Jj fr 22,ixF_Jj fr 23,ixF_Jj fr 24,ixF_Jj fr 25,ixF_Jj fr 26,ixF_Jj fr 27,ixF_Jj fr 28,ixF_Jj fr 29,p.sd, .int .i64 (p.starts.length : Nat), .int .i64 (r : Nat),ixF_Jj fr 33,ixF_Jj fr 34,ixF_Jj fr 35,ixF_Jj fr 36,ixF_Jj fr 37,ixF_Jj fr 38,ixF_Jj fr 39,ixF_Jj fr 40,ixF_Jj fr 41,ixF_Jj fr 42,ixF_Jj fr 43,ixF_Jj fr 44,ixF_Jj fr 45,boolsV (reachS p.code s), .int .i64 ((reachS p.code s).length : Nat), .int .i64 (i : Nat)], []⟩ /\ Has s0.bs.length S st [.box k1 (.mem 0 false [p.cd,p.sd])] /\ (i + mm = p.code.length) /\ (ownMatch p r s i)) (p.code.length) ?_ ?_
     ·exact ⟨0,rfl,hH,by omega,by intro pc q h; omega⟩
     rintro mm fr st ⟨i,hfr,hH,hj,hom⟩;rw [hfr];clear hfr;generalize ixF_Jj fr = ee;clear fr;refine zQ 5 ?_;refine zP (fun h5 => ?_) fun h5 => ?_
     ·refine zQ 1 ?_
      obtain ⟨b,hb⟩ : ∃ b,(reachS p.code s)[i]? = some b := ⟨(reachS p.code s)[i]'(by omega),List.getElem?_eq_getElem _⟩
      obtain ⟨q,hq⟩ : ∃ q,p.code[i]? = some q := ⟨p.code[i]'(by omega),List.getElem?_eq_getElem _⟩
      have hr1 := bool_get hb;have hr2 := ins_get hq;refine zQ 5 ?_;refine qr fun p51 hp51 => ?_;refine zQ 5 ?_;refine EvC.cutT 72 (.bool ((b && (q.op == 7)) && (q.x != (r : Int)))) [] ?_ (fun ff tmp htmp => ?_)
      ·refine zQ 2 ?_;refine EvO.two 54 rfl (fun hg1 => ?_) (fun hg1 => ?_)
       ·refine zQ 3 ?_;refine qr (fun p58 hp58 => ?_) (hg := wi hg1);refine qf (fo := 0) (fun p59 hp59 => ?_) (hg := wi hg1);refine zQ 4 ?_;refine EvO.two 63 rfl (fun hg10 => ?_) (fun hg10 => ?_)
        ·refine zQ 3 ?_;refine qr (fun p67 hp67 => ?_) (hg := wi hg10);refine qf (fo := 1) (fun p68 hp68 => ?_) (hg := wi hg10);refine zQ 4 ?_;refine EvO.nil (leafT ?_ ?_)
         ·dsimp only [setW,List.foldl,nth,u2,u1]
          all_goals (first | rfl | simp)
         ·refine zF ?_
          all_goals (simp [hg1,hg10]; done)
        ·refine zQ 9 ?_;refine EvO.nil (leafT ?_ ?_)
         ·dsimp only [setW,List.foldl,nth,u2,u1]
          all_goals (first | rfl | simp)
         ·refine zF ?_
          all_goals (simp [hg1,hg10]; done)
       ·refine zQ 18 ?_;refine EvO.nil (leafT ?_ ?_)
        ·dsimp only [setW,List.foldl,nth,u2,u1]
         all_goals (first | rfl | simp)
        ·refine zF ?_
         all_goals (simp [hg1]; done)
      refine zG ?_;refine qc (fun h6 => ?_) (fun h6 => ?_) <;> try simp only [cs] at h6
      ·rw [dec_no (fun h => by
        have h7 := h.fo r s hs1 i q (by omega);simp only [Bool.and_eq_true,beq_iff_eq,bne_iff_ne,ne_eq] at h6;obtain ⟨⟨rfl,h8⟩,h9⟩ := h6
        exact h9 (h7 hb hq h8))]
       refine zQ 4 ?_;refine EvC.ret ⟨rx,_,rfl,rl hSb hH (rfl)⟩
      ·refine zQ 5 ?_;refine ⟨mm - 1,by omega,⟨i + 1,rfl,hH,by omega,?_⟩⟩;intro pc q' hpc hre hq' hop
       by_cases he : pc = i
       ·subst he;rw [hq] at hq'; cases hq';rw [hb] at hre; cases hre;simp [hop] at h6; exact h6
       ·exact hom pc q' (by omega) hre hq' hop
     ·refine zQ 5 ?_;refine ⟨p.starts.length - (r + 1),by omega,⟨r + 1,rfl,hH,by omega,?_⟩⟩;intro r' s' hr' hs'
      by_cases he : r' = r
      ·subst he;rw [hs1] at hs'; cases hs';exact ⟨hsin,fun pc q hpc => hom pc q (by omega)⟩
      ·exact hok r' s' (by omega) hs'
   ·refine zQ 1 ?_
    rw [dec_yes ⟨h0.1,h0.2,hsh,fun v hv => by
     obtain ⟨r',hr'⟩ := List.getElem?_of_mem hv
     exact (hok r' v (by have := lt_get hr'; omega) hr').1,fun r' s' hs' => (hok r' s' (by have := lt_get hs'; omega) hs').2⟩]
    refine zQ 4 ?_;refine EvC.ret ⟨rx,_,rfl,rl hSb hH (rfl)⟩
def numsS : Nat -> List Bool -> List Int
 | _, [] => []
 | i,b :: l => (if b then [(i : Int)] else []) ++ numsS (i + 1) l
noncomputable def reachN (p : Pg) (rule : Int) : List Int := if dec (RightQ p) && inS rule p.starts.length then numsS 0 (reachS p.code (p.starts.getD rule.toNat 0)) else []
end Go.Proofs.Ytapfahlbkhgdpaa
