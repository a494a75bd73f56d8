/- own -/
import Derived.Test.YtnleclohocdkaaaPPx
import Derived.Test.YtnleclohocdkaaaPM2
import Derived.KernelRfl
set_option linter.unusedSimpArgs false
set_option linter.unusedVariables false
set_option maxRecDepth 100000
set_option maxHeartbeats 4000000
namespace Go.V
abbrev Rg := Int × Int
def memR (l : List Rg) (r : Int) : Prop := ∃ x,x ∈ l /\ x.1 <= r /\ r <= x.2
theorem memR_nil (r : Int) : ¬ memR [] r := by rintro ⟨x,h,_⟩; cases h
theorem memR_cons {x : Rg} {l : List Rg} {r : Int} : memR (x :: l) r ↔ (x.1 <= r /\ r <= x.2) \/ memR l r := by
  constructor
  · rintro ⟨y,hy,h⟩
    rcases List.mem_cons.1 hy with rfl | hy
    · exact .inl h
    · exact .inr ⟨y,hy,h⟩
  · rintro (h | ⟨y,hy,h⟩)
    · exact ⟨x,List.mem_cons_self ..,h⟩
    · exact ⟨y,List.mem_cons_of_mem _ hy,h⟩
theorem memR_append {a b : List Rg} {r : Int} : memR (a ++ b) r ↔ memR a r \/ memR b r := by
  constructor
  · rintro ⟨y,hy,h⟩
    rcases List.mem_append.1 hy with hy | hy
    · exact .inl ⟨y,hy,h⟩
    · exact .inr ⟨y,hy,h⟩
  · rintro (⟨y,hy,h⟩ | ⟨y,hy,h⟩)
    · exact ⟨y,List.mem_append_left _ hy,h⟩
    · exact ⟨y,List.mem_append_right _ hy,h⟩
theorem memR_same {a b : List Rg} (h : ∀ x,x ∈ a ↔ x ∈ b) (r : Int) : memR a r ↔ memR b r := by
  constructor
  · rintro ⟨y,hy,hh⟩; exact ⟨y,(h y).1 hy,hh⟩
  · rintro ⟨y,hy,hh⟩; exact ⟨y,(h y).2 hy,hh⟩
def canon (l : List Rg) : Prop := (∀ x ∈ l,x.1 <= x.2) /\ l.Pairwise fun x y => x.2 + 1 < y.1
theorem canon_tail {x : Rg} {l : List Rg} (h : canon (x :: l)) : canon l /\ x.1 <= x.2 /\ ∀ r,memR l r -> x.2 + 1 < r := by
  obtain ⟨h1,h2⟩ := h
  rw [List.pairwise_cons] at h2
  refine ⟨⟨fun y hy => h1 y (List.mem_cons_of_mem _ hy),h2.2⟩,h1 x (List.mem_cons_self ..),?_⟩
  rintro r ⟨y,hy,h3,h4⟩
  have := h2.1 y hy
  omega
theorem canon_unique : ∀ {a b : List Rg},canon a -> canon b -> (∀ r,memR a r ↔ memR b r) -> a = b
  | [], [],_,_,_ => rfl
  | [],y :: b,_,hb,h => by
    obtain ⟨_,h1,_⟩ := canon_tail hb
    exact absurd ((h y.1).2 (memR_cons.2 (.inl ⟨Int.le_refl _,h1⟩))) (memR_nil _)
  | x :: a, [],ha,_,h => by
    obtain ⟨_,h1,_⟩ := canon_tail ha
    exact absurd ((h x.1).1 (memR_cons.2 (.inl ⟨Int.le_refl _,h1⟩))) (memR_nil _)
  | x :: a,y :: b,ha,hb,h => by
    obtain ⟨ca,xa,fa⟩ := canon_tail ha
    obtain ⟨cb,yb,fb⟩ := canon_tail hb
    have low : ∀ {x y : Rg} {a b : List Rg},x.1 <= x.2 -> (∀ r,memR b r -> y.2 + 1 < r) -> y.1 <= y.2 -> (∀ r,memR (x :: a) r -> memR (y :: b) r) -> y.1 <= x.1 := by
      intro x y a b hx hf hy hh
      rcases memR_cons.1 (hh x.1 (memR_cons.2 (.inl ⟨Int.le_refl _,hx⟩))) with h | h
      · exact h.1
      · have := hf _ h; omega
    have e1 : x.1 = y.1 := Int.le_antisymm (low yb fa xa fun r => (h r).2) (low xa fb yb fun r => (h r).1)
    have up : ∀ {x y : Rg} {a b : List Rg},x.1 <= x.2 -> x.1 = y.1 -> (∀ r,memR a r -> x.2 + 1 < r) -> (∀ r,memR (y :: b) r -> memR (x :: a) r) -> y.2 <= x.2 := by
      intro x y a b hx he hf hh
      rcases Int.lt_or_le x.2 y.2 with h' | h'
      · rcases memR_cons.1 (hh (x.2 + 1) (memR_cons.2 (.inl ⟨by omega,by omega⟩))) with h | h
        · omega
        · have := hf _ h; omega
      · exact h'
    have e2 : x.2 = y.2 := Int.le_antisymm (up yb e1.symm fb fun r => (h r).1) (up xa e1 fa fun r => (h r).2)
    have e : x = y := Prod.ext e1 e2
    subst e
    congr 1
    refine canon_unique ca cb fun r => ⟨fun hr => ?_,fun hr => ?_⟩
    · have := fa r hr
      rcases memR_cons.1 ((h r).1 (memR_cons.2 (.inr hr))) with h | h
      · omega
      · exact h
    · have := fb r hr
      rcases memR_cons.1 ((h r).2 (memR_cons.2 (.inr hr))) with h | h
      · omega
      · exact h
def joinR (acc : List Rg) (r : Rg) : List Rg :=
  match acc with
  | [] => [r]
  | k :: rest => if r.1 <= k.2 + 1 then (k.1,max k.2 r.2) :: rest else r :: k :: rest
theorem joinR_ok : ∀ (l acc : List Rg),(∀ x ∈ l,x.1 <= x.2) -> l.Pairwise (fun x y => x.1 <= y.1) -> (∀ k ∈ acc.head?, ∀ x ∈ l,k.1 <= x.1) -> (∀ x ∈ acc,x.1 <= x.2) -> acc.Pairwise (fun x y => y.2 + 1 < x.1) ->
    (∀ x ∈ l.foldl joinR acc,x.1 <= x.2) /\ (l.foldl joinR acc).Pairwise (fun x y => y.2 + 1 < x.1) /\ ∀ r,memR (l.foldl joinR acc) r ↔ memR acc r \/ memR l r
  | [],acc,_,_,_,h1,h2 => ⟨h1,h2,fun r => ⟨.inl,fun h => h.resolve_right (memR_nil r)⟩⟩
  | x :: l,acc,hl,hp,hk,h1,h2 => by
    rw [List.pairwise_cons] at hp
    have hx := hl x (List.mem_cons_self ..)
    have hl' : ∀ y ∈ l,y.1 <= y.2 := fun y hy => hl y (List.mem_cons_of_mem _ hy)
    rw [List.foldl_cons]
    cases acc with
    | nil =>
      obtain ⟨g1,g2,g3⟩ := joinR_ok l [x] hl' hp.2 (fun k hk' y hy => by simp at hk'; subst hk'; exact hp.1 y hy) (fun y hy => by simp at hy; subst hy; exact hx) (by simp)
      refine ⟨g1,g2,fun r => (g3 r).trans ?_⟩
      rw [memR_cons (l := l),memR_cons (l := [])]
      constructor
      · rintro ((h | h) | h)
        · exact .inr (.inl h)
        · exact absurd h (memR_nil r)
        · exact .inr (.inr h)
      · rintro (h | h | h)
        · exact absurd h (memR_nil r)
        · exact .inl (.inl h)
        · exact .inr h
    | cons k rest =>
      have hkx := hk k rfl x (List.mem_cons_self ..)
      have hkk := h1 k (List.mem_cons_self ..)
      rw [List.pairwise_cons] at h2
      unfold joinR
      by_cases hc : x.1 <= k.2 + 1
      · simp only [if_pos hc]
        obtain ⟨g1,g2,g3⟩ := joinR_ok l ((k.1,max k.2 x.2) :: rest) hl' hp.2 (fun q hq y hy => by simp at hq; subst hq; have := hp.1 y hy; simp only; omega) (fun y hy => by
          rcases List.mem_cons.1 hy with rfl | hy
          · simp only; omega
          · exact h1 y (List.mem_cons_of_mem _ hy)) (by rw [List.pairwise_cons]; exact ⟨h2.1,h2.2⟩)
        refine ⟨g1,g2,fun r => (g3 r).trans ?_⟩
        rw [memR_cons (l := rest),memR_cons (l := rest),memR_cons (l := l)]
        constructor
        · rintro ((h | h) | h)
          · simp only at h
            by_cases hr : r <= k.2
            · exact .inl (.inl ⟨h.1,hr⟩)
            · exact .inr (.inl ⟨by omega,by omega⟩)
          · exact .inl (.inr h)
          · exact .inr (.inr h)
        · rintro ((h | h) | h | h)
          · exact .inl (.inl ⟨h.1,by simp only; omega⟩)
          · exact .inl (.inr h)
          · exact .inl (.inl ⟨by simp only; omega,by simp only; omega⟩)
          · exact .inr h
      · simp only [if_neg hc]
        obtain ⟨g1,g2,g3⟩ := joinR_ok l (x :: k :: rest) hl' hp.2 (fun q hq y hy => by simp at hq; subst hq; exact hp.1 y hy) (fun y hy => by
          rcases List.mem_cons.1 hy with rfl | hy
          · exact hx
          · exact h1 y hy) (by
          rw [List.pairwise_cons]
          refine ⟨fun y hy => ?_,by rw [List.pairwise_cons]; exact h2⟩
          rcases List.mem_cons.1 hy with rfl | hy
          · omega
          · have := h2.1 y hy; omega)
        refine ⟨g1,g2,fun r => (g3 r).trans ?_⟩
        rw [memR_cons (l := k :: rest),memR_cons (l := l)]
        constructor
        · rintro ((h | h) | h)
          · exact .inr (.inl h)
          · exact .inl h
          · exact .inr (.inr h)
        · rintro (h | h | h)
          · exact .inl (.inr h)
          · exact .inl (.inl h)
          · exact .inr h
theorem join_canon {l : List Rg} (h1 : ∀ x ∈ l,x.1 <= x.2) (h2 : l.Pairwise fun x y => x.1 <= y.1) : canon (l.foldl joinR []).reverse /\ ∀ r,memR (l.foldl joinR []).reverse r ↔ memR l r := by
  obtain ⟨g1,g2,g3⟩ := joinR_ok l [] h1 h2 (fun k hk => by simp at hk) (fun x hx => by simp at hx) List.Pairwise.nil
  refine ⟨⟨fun x hx => g1 x (List.mem_reverse.1 hx),by rw [List.pairwise_reverse]; exact g2⟩,fun r => ?_⟩
  rw [memR_same (fun x => List.mem_reverse) r,g3 r]
  exact ⟨fun h => h.resolve_left (memR_nil r), .inr⟩
def isRune (r : Int) : Prop := 0 <= r /\ r <= 1114111 /\ ¬ (55296 <= r /\ r <= 57343)
def runesS (x : Rg) : List Rg :=
  (if max (max x.1 0) 0 <= min (min x.2 1114111) 55295 then [(max (max x.1 0) 0,min (min x.2 1114111) 55295)] else []) ++
  (if max (max x.1 0) 57344 <= min (min x.2 1114111) 1114111 then [(max (max x.1 0) 57344,min (min x.2 1114111) 1114111)] else [])
theorem runesS_mem (x : Rg) (r : Int) : memR (runesS x) r ↔ isRune r /\ x.1 <= r /\ r <= x.2 := by
  unfold runesS isRune
  rw [memR_append]
  have one : ∀ (a b : Int),memR (if a <= b then [(a,b)] else []) r ↔ a <= r /\ r <= b := by
    intro a b
    split
    · rw [memR_cons]
      exact ⟨fun h => h.elim id fun h => absurd h (memR_nil r), .inl⟩
    · exact ⟨fun h => absurd h (memR_nil r),fun h => by omega⟩
  rw [one,one]
  omega
theorem runesS_le (x : Rg) : ∀ y ∈ runesS x,y.1 <= y.2 /\ 0 <= y.1 /\ y.2 <= 1114111 := by
  intro y hy
  unfold runesS at hy
  rcases List.mem_append.1 hy with h | h <;> split at h <;> simp at h <;> subst h <;> simp only <;> omega
theorem make_canon {l all : List Rg} (hp : ∀ x,x ∈ all ↔ x ∈ l.flatMap runesS) (hs : all.Pairwise fun x y => x.1 <= y.1) : canon (all.foldl joinR []).reverse /\ ∀ r,memR (all.foldl joinR []).reverse r ↔ isRune r /\ memR l r := by
  have hle : ∀ x ∈ all,x.1 <= x.2 := fun x hx => by
    obtain ⟨y,_,hy⟩ := List.mem_flatMap.1 ((hp x).1 hx)
    exact (runesS_le y x hy).1
  obtain ⟨g1,g2⟩ := join_canon hle hs
  refine ⟨g1,fun r => (g2 r).trans ((memR_same hp r).trans ?_)⟩
  constructor
  · rintro ⟨y,hy,h⟩
    obtain ⟨x,hx,hy⟩ := List.mem_flatMap.1 hy
    have := (runesS_mem x r).1 ⟨y,hy,h⟩
    exact ⟨this.1,x,hx,this.2⟩
  · rintro ⟨hr,x,hx,h⟩
    obtain ⟨y,hy,h'⟩ := (runesS_mem x r).2 ⟨hr,h⟩
    exact ⟨y,List.mem_flatMap.2 ⟨x,hx,hy⟩,h'⟩
def hasS : List Rg -> Int -> Bool
  | [],_ => false
  | x :: l,r => (decide (x.1 <= r) && decide (r <= x.2)) || hasS l r
theorem hasS_iff : ∀ (l : List Rg) (r : Int),hasS l r = true ↔ memR l r
  | [],r => ⟨fun h => (by cases h),fun h => absurd h (memR_nil r)⟩
  | x :: l,r => by
    rw [memR_cons, <- hasS_iff l r]
    simp [hasS]
def endsS (x : Rg) : List Int :=
  (if x.1 <= x.2 /\ 0 <= x.1 /\ x.1 <= 1114111 then [x.1] else []) ++ (if x.1 <= x.2 /\ 0 <= x.2 /\ x.2 < 1114111 then [x.2 + 1] else [])
def pieceS (acc : List Rg) (lo hi : Int) : List Rg :=
  match acc with
  | [] => [(lo,hi)]
  | k :: rest => if k.2 + 1 = lo then (k.1,hi) :: rest else (lo,hi) :: k :: rest
def okM (l : List Rg) (yes : Bool) (a b : Int) : Bool := decide (a < b) && (decide (a < 55296) || decide (57343 < a)) && (hasS l a == yes)
def piecesS (l : List Rg) (yes : Bool) : List Int -> List Rg -> List Rg
  | a :: b :: t,acc => piecesS l yes (b :: t) (if okM l yes a b = true then pieceS acc a (b - 1) else acc)
  | _,acc => acc
theorem between {l : List Rg} {m : List Int} {a b : Int} (hm : ∀ x ∈ l, ∀ e ∈ endsS x,e <= a \/ b <= e) (h1 : 55296 <= a \/ b <= 55296) (h2 : 57344 <= a \/ b <= 57344) (ha : 0 <= a) (hb : b <= 1114112) {r : Int} (hr : a <= r) (hrb : r < b) :
    (isRune r ↔ ¬ (55296 <= a /\ a <= 57343)) /\ (memR l r ↔ memR l a) := by
  refine ⟨by unfold isRune; omega,?_,?_⟩
  · rintro ⟨x,hx,h3,h4⟩
    refine ⟨x,hx,?_,by omega⟩
    rcases Int.lt_or_le a x.1 with h | h
    · have := hm x hx x.1 (by unfold endsS; rw [if_pos (by omega)]; simp)
      omega
    · exact h
  · rintro ⟨x,hx,h3,h4⟩
    refine ⟨x,hx,by omega,?_⟩
    rcases Int.lt_or_le x.2 r with h | h
    · have := hm x hx (x.2 + 1) (by unfold endsS; rw [if_pos (c := x.1 <= x.2 /\ 0 <= x.2 /\ x.2 < 1114111) (by omega)]; simp)
      omega
    · exact h
theorem piece_ok {acc : List Rg} {lo hi : Int} (h1 : ∀ x ∈ acc,x.1 <= x.2) (h2 : acc.Pairwise (fun x y => y.2 + 1 < x.1)) (h3 : ∀ x ∈ acc,x.2 < lo) (h4 : lo <= hi) :
    (∀ x ∈ pieceS acc lo hi,x.1 <= x.2) /\ (pieceS acc lo hi).Pairwise (fun x y => y.2 + 1 < x.1) /\ (∀ x ∈ pieceS acc lo hi,x.2 <= hi) /\ ∀ r,memR (pieceS acc lo hi) r ↔ memR acc r \/ (lo <= r /\ r <= hi) := by
  cases acc with
  | nil =>
    refine ⟨by simp [pieceS,h4],by simp [pieceS],by simp [pieceS],fun r => ?_⟩
    simp only [pieceS]
    rw [memR_cons]
    exact ⟨fun h => .inr (h.resolve_right (memR_nil r)),fun h => .inl (h.resolve_left (memR_nil r))⟩
  | cons k rest =>
    have hk := h1 k (List.mem_cons_self ..)
    have hk3 := h3 k (List.mem_cons_self ..)
    rw [List.pairwise_cons] at h2
    unfold pieceS
    by_cases hc : k.2 + 1 = lo
    · simp only [if_pos hc]
      refine ⟨fun x hx => ?_,?_,fun x hx => ?_,fun r => ?_⟩
      · rcases List.mem_cons.1 hx with rfl | hx
        · simp only; omega
        · exact h1 x (List.mem_cons_of_mem _ hx)
      · rw [List.pairwise_cons]; exact ⟨h2.1,h2.2⟩
      · rcases List.mem_cons.1 hx with rfl | hx
        · simp
        · have := h3 x (List.mem_cons_of_mem _ hx); omega
      · rw [memR_cons (l := rest),memR_cons (l := rest)]
        simp only
        constructor
        · rintro (h | h)
          · by_cases hh : r <= k.2
            · exact .inl (.inl ⟨h.1,hh⟩)
            · exact .inr (by omega)
          · exact .inl (.inr h)
        · rintro ((h | h) | h)
          · exact .inl (by omega)
          · exact .inr h
          · exact .inl (by omega)
    · simp only [if_neg hc]
      refine ⟨fun x hx => ?_,?_,fun x hx => ?_,fun r => ?_⟩
      · rcases List.mem_cons.1 hx with rfl | hx
        · exact h4
        · exact h1 x hx
      · rw [List.pairwise_cons]
        refine ⟨fun y hy => ?_,by rw [List.pairwise_cons]; exact h2⟩
        rcases List.mem_cons.1 hy with rfl | hy
        · simp only; omega
        · have := h2.1 y hy; simp only; omega
      · rcases List.mem_cons.1 hx with rfl | hx
        · exact Int.le_refl _
        · have := h3 x hx; omega
      · rw [memR_cons]
        exact ⟨fun h => h.elim .inr .inl,fun h => h.elim .inr .inl⟩
theorem pieces_ok (l : List Rg) (yes : Bool) : ∀ (m : List Int) (acc : List Rg),m.Pairwise (· <= ·) -> (∀ a ∈ m,0 <= a /\ a <= 1114112) ->
    (∀ q : Int,(q = 55296 \/ q = 57344 \/ ∃ x ∈ l,q ∈ endsS x) -> q ∈ m \/ ∀ a ∈ m,q <= a) -> (∀ x ∈ acc,x.1 <= x.2) -> acc.Pairwise (fun x y => y.2 + 1 < x.1) -> (∀ x ∈ acc, ∀ a ∈ m.head?,x.2 < a) ->
    (∀ x ∈ piecesS l yes m acc,x.1 <= x.2) /\ (piecesS l yes m acc).Pairwise (fun x y => y.2 + 1 < x.1) /\
    ∀ r,memR (piecesS l yes m acc) r ↔ memR acc r \/ (isRune r /\ (memR l r ↔ yes = true) /\ (∃ a ∈ m.head?,a <= r) /\ ∃ b ∈ m.getLast?,r < b)
  | [],acc,_,_,_,h1,h2,_ => ⟨h1,h2,fun r => ⟨.inl,fun h => h.elim id (by rintro ⟨_,_,⟨a,h,_⟩,_⟩; simp at h)⟩⟩
  | [a],acc,_,_,_,h1,h2,_ => ⟨h1,h2,fun r => ⟨.inl,fun h => h.elim id (by rintro ⟨_,_,⟨a',h,h'⟩,b,hb,hb'⟩; simp at h hb; omega)⟩⟩
  | a :: b :: t,acc,hs,hr,hm,h1,h2,h3 => by
    have hs0 := hs
    rw [List.pairwise_cons] at hs
    have hab : a <= b := hs.1 b (List.mem_cons_self ..)
    have ha := hr a (List.mem_cons_self ..)
    have hb := hr b (List.mem_cons_of_mem _ (List.mem_cons_self ..))
    have key : ∀ q : Int,(q = 55296 \/ q = 57344 \/ ∃ x ∈ l,q ∈ endsS x) -> q <= a \/ b <= q := by
      intro q hq
      rcases hm q hq with h | h
      · rcases List.mem_cons.1 h with rfl | h
        · exact .inl (Int.le_refl _)
        · rcases List.mem_cons.1 h with rfl | h
          · exact .inr (Int.le_refl _)
          · have := (List.pairwise_cons.1 hs.2).1 q h
            exact .inr this
      · exact .inl (h a (List.mem_cons_self ..))
    have hbt : ∀ r,a <= r -> r < b -> (isRune r ↔ ¬ (55296 <= a /\ a <= 57343)) /\ (memR l r ↔ memR l a) := fun r h h' =>
      between (m := []) (fun x hx e he => key e (.inr (.inr ⟨x,hx,he⟩))) (by have := key 55296 (.inl rfl); omega) (by have := key 57344 (.inr (.inl rfl)); omega) ha.1 hb.2 h h'
    have hm' : ∀ q : Int,(q = 55296 \/ q = 57344 \/ ∃ x ∈ l,q ∈ endsS x) -> q ∈ b :: t \/ ∀ c ∈ b :: t,q <= c := by
      intro q hq
      rcases hm q hq with h | h
      · rcases List.mem_cons.1 h with rfl | h
        · exact .inr hs.1
        · exact .inl h
      · exact .inr fun c hc => h c (List.mem_cons_of_mem _ hc)
    have hr' : ∀ c ∈ b :: t,0 <= c /\ c <= 1114112 := fun c hc => hr c (List.mem_cons_of_mem _ hc)
    have hlast : ∀ r,(∃ e ∈ (a :: b :: t).getLast?,r < e) ↔ ∃ e ∈ (b :: t).getLast?,r < e := fun r => by rw [List.getLast?_cons_cons]
    have hbl : ∃ e ∈ (b :: t).getLast?,b <= e := by
      refine ⟨(b :: t).getLast (by simp),by rw [List.getLast?_eq_some_getLast (by simp)]; simp,?_⟩
      have := List.getLast_mem (l := b :: t) (by simp)
      rcases List.mem_cons.1 this with h | h
      · rw [h]; exact Int.le_refl _
      · exact (List.pairwise_cons.1 hs.2).1 _ h
    have hok : okM l yes a b = true ↔ a < b /\ ¬ (55296 <= a /\ a <= 57343) /\ (memR l a ↔ yes = true) := by
      unfold okM
      rw [<- hasS_iff]
      cases hasS l a <;> cases yes <;> simp <;> omega
    unfold piecesS
    by_cases hc : okM l yes a b = true
    · rw [if_pos hc]
      obtain ⟨c1,c2,c3⟩ := hok.1 hc
      obtain ⟨p1,p2,p3,p4⟩ := piece_ok h1 h2 (fun x hx => h3 x hx a rfl) (show a <= b - 1 by omega)
      obtain ⟨g1,g2,g3⟩ := pieces_ok l yes (b :: t) _ hs.2 hr' hm' p1 p2 (fun x hx c hc => by simp at hc; subst hc; have := p3 x hx; omega)
      refine ⟨g1,g2,fun r => (g3 r).trans ?_⟩
      rw [p4,hlast]
      constructor
      · rintro ((h | h) | ⟨h4,h5,⟨c,hc,h6⟩,h7⟩)
        · exact .inl h
        · obtain ⟨k1,k2⟩ := hbt r h.1 (by omega)
          obtain ⟨e,he,hbe⟩ := hbl
          exact .inr ⟨k1.2 c2,k2.trans c3,⟨a,rfl,h.1⟩,e,he,by omega⟩
        · simp at hc; subst hc
          exact .inr ⟨h4,h5,⟨a,rfl,by omega⟩,h7⟩
      · rintro (h | ⟨h4,h5,⟨c,hc,h6⟩,h7⟩)
        · exact .inl (.inl h)
        · simp at hc; subst hc
          by_cases hrb : r < b
          · exact .inl (.inr (by omega))
          · exact .inr ⟨h4,h5,⟨b,rfl,by omega⟩,h7⟩
    · rw [if_neg hc]
      obtain ⟨g1,g2,g3⟩ := pieces_ok l yes (b :: t) acc hs.2 hr' hm' h1 h2 (fun x hx c hc => by simp at hc; subst hc; have := h3 x hx a rfl; omega)
      refine ⟨g1,g2,fun r => (g3 r).trans ?_⟩
      rw [hlast]
      constructor
      · rintro (h | ⟨h4,h5,⟨c,hc,h6⟩,h7⟩)
        · exact .inl h
        · simp at hc; subst hc
          exact .inr ⟨h4,h5,⟨a,rfl,by omega⟩,h7⟩
      · rintro (h | ⟨h4,h5,⟨c,hc',h6⟩,h7⟩)
        · exact .inl h
        · simp at hc'; subst hc'
          by_cases hrb : r < b
          · exfalso
            obtain ⟨k1,k2⟩ := hbt r h6 hrb
            exact hc (hok.2 ⟨by omega,k1.1 h4,k2.symm.trans h5⟩)
          · exact .inr ⟨h4,h5,⟨b,rfl,by omega⟩,h7⟩
theorem refmake_canon {l : List Rg} {m : List Int} (yes : Bool) (hp : ∀ q,q ∈ m ↔ q = 0 \/ q = 55296 \/ q = 57344 \/ q = 1114112 \/ ∃ x ∈ l,q ∈ endsS x) (hs : m.Pairwise (· <= ·)) :
    canon (piecesS l yes m []).reverse /\ ∀ r,memR (piecesS l yes m []).reverse r ↔ isRune r /\ (memR l r ↔ yes = true) := by
  have hr : ∀ a ∈ m,0 <= a /\ a <= 1114112 := by
    intro a ha
    rcases (hp a).1 ha with h | h | h | h | ⟨x,hx,h⟩
    · omega
    · omega
    · omega
    · omega
    · unfold endsS at h
      rcases List.mem_append.1 h with h | h <;> split at h <;> simp at h <;> omega
  obtain ⟨g1,g2,g3⟩ := pieces_ok l yes m [] hs hr (fun q hq => .inl ((hp q).2 (by rcases hq with h | h | h; exact .inr (.inl h); exact .inr (.inr (.inl h)); exact .inr (.inr (.inr (.inr h)))))) (fun x hx => by simp at hx) List.Pairwise.nil (fun x hx => by simp at hx)
  have h0 : (0 : Int) ∈ m := (hp 0).2 (.inl rfl)
  have h9 : (1114112 : Int) ∈ m := (hp _).2 (.inr (.inr (.inr (.inl rfl))))
  have hh : ∃ a ∈ m.head?,a <= 0 := by
    cases m with
    | nil => cases h0
    | cons a t =>
      refine ⟨a,rfl,?_⟩
      rcases List.mem_cons.1 h0 with h | h
      · omega
      · exact (List.pairwise_cons.1 hs).1 _ h
  have hl : ∃ b ∈ m.getLast?,1114112 <= b := by
    have hne : m ≠ [] := List.ne_nil_of_mem h0
    refine ⟨m.getLast hne,by rw [List.getLast?_eq_some_getLast hne]; simp,?_⟩
    obtain ⟨i,hi,he⟩ := List.getElem_of_mem h9
    rw [List.getLast_eq_getElem, <- he]
    rcases Nat.lt_or_ge i (m.length - 1) with h | h
    · exact (List.pairwise_iff_getElem.1 hs) i (m.length - 1) hi (by omega) h
    · have : i = m.length - 1 := by omega
      subst this; exact Int.le_refl _
  refine ⟨⟨fun x hx => g1 x (List.mem_reverse.1 hx),by rw [List.pairwise_reverse]; exact g2⟩,fun r => ?_⟩
  rw [memR_same (fun x => List.mem_reverse) r,g3 r]
  constructor
  · rintro (h | ⟨h1,h2,_⟩)
    · exact absurd h (memR_nil r)
    · exact ⟨h1,h2⟩
  · rintro ⟨h1,h2⟩
    obtain ⟨a,ha,ha'⟩ := hh
    obtain ⟨b,hb,hb'⟩ := hl
    have := h1
    unfold isRune at this
    exact .inr ⟨h1,h2,⟨a,ha,by omega⟩,b,hb,by omega⟩
end Go.V
namespace Go.Proofs.Ytnleclohocdkaaa
open Go.V Go
def ixF_Ja (fr : Go.V.Fr) (k : Nat) : Go.V.D := Go.V.nth .junk fr.loc k
def rangeC (x : Rg) : List D := [.int .i32 x.1, .int .i32 x.2]
def rangesV (l : List Rg) : D := .sl (l.map fun x => .agg (rangeC x))
theorem rangesV_el (l : List Rg) : D.sl ((l.map rangeC).map (elD 2)) = rangesV l := by
 unfold rangesV; rw [List.map_map]; rfl
theorem range_plain (l : List Rg) : ∀ e ∈ l.map rangeC, ∀ d ∈ e,plainC d = true := by
 intro e he d hd;obtain ⟨x,_,rfl⟩ := List.mem_map.1 he;simp only [rangeC,List.mem_cons,List.not_mem_nil,or_false] at hd
 rcases hd with rfl | rfl <;> rfl
theorem range_len (l : List Rg) : ∀ e ∈ l.map rangeC,e.length = 2 := by
 intro e he; obtain ⟨x,_,rfl⟩ := List.mem_map.1 he; rfl
theorem rangesV_rows (st : St) (l : List Rg) : V.Rows st 2 (rangesV l) (l.map rangeC) := by
 rw [<- rangesV_el];exact Rows.ofFrozen (range_len l) (range_plain l)
theorem range_get {l : List Rg} {i : Nat} {q : Rg} (h : l[i]? = some q) : (l.map rangeC)[i]? = some (rangeC q) := by rw [List.getElem?_map,h]; rfl
theorem hasS_snoc (l : List Rg) (q : Rg) (r : Int) : hasS (l ++ [q]) r = (hasS l r || (decide (q.1 <= r) && decide (r <= q.2))) := by
 induction l with
 | nil => simp [hasS]
 | cons x l ih => simp only [List.cons_append,hasS,ih,Bool.or_assoc]
theorem hasS_pre {l : List Rg} {i : Nat} {r : Int} (h : hasS (l.take i) r = true) : hasS l r = true := by
 rw [hasS_iff] at h ⊢;obtain ⟨x,h1,h2⟩ := h;exact ⟨x,List.mem_of_mem_take h1,h2⟩
theorem refHas_ev {s0 : St} {x : D} {l : List Rg} {r : Int} (hx : V.Rows s0 2 x (l.map rangeC)) (hl : l.length <= 1073741824) : Ev pv 118 [x, .int .i32 r] s0 (.bool (hasS l r)) s0 := by
 refine Ev.mk1 rfl fi118 rfl rfl rfl ?_;dsimp only [u3,u4,List.length,Nat.reduceSub,Nat.reduceAdd,w1,w2];obtain ⟨hSb,hF,hH⟩ := ri s0;generalize enterSt .ro s0 = S at *;have hx := Arg.of hx hSb;refine qq ?_;refine qj fun K hK => ?_;refine qm ?_;refine qe hK ?_;refine qq ?_;refine qq ?_;refine qj fun K hK => ?_;refine qm ?_;refine qe hK ?_;refine EvC.block ?_;refine EvC.loop (fun mm fr st => ∃ (i : Nat),fr.clean = ⟨6, [x, .int .i32 r,ixF_Ja fr 2,ixF_Ja fr 3, .bool false, .int .i64 (i : Nat)], []⟩ /\ Has s0.bs.length S st [] /\ (i + mm = l.length) /\ (hasS (l.take i) r = false)) (l.length) ?_ ?_
 ·exact ⟨0,rfl,hH,by omega,rfl⟩
 rintro mm fr st ⟨i,hfr,hH,hi,hn⟩;rw [hfr];clear hfr;generalize ixF_Ja fr = ee;clear fr;refine qq ?_;refine qq ?_;refine qj fun K hK => ?_;refine qm ?_;refine qm ?_;refine qn ?_;simp only [List.length_map];refine qg ?_;refine qe hK ?_;refine EvC.cond (by rfl) (fun h1 => ?_) (fun h1 => ?_) <;> try simp only [decide_eq_true_eq,decide_eq_false_iff_not] at h1
 ·refine EvC.skip ?_
  obtain ⟨q,hq⟩ : ∃ q,l[i]? = some q := ⟨l[i]'(by omega),List.getElem?_eq_getElem _⟩
  have hr := range_get hq;refine qq ?_;refine EvC.block ?_;refine qq ?_;refine EvC.cutT 27 (.bool (decide (r >= q.1) && decide (r <= q.2))) [] ?_ (fun ff tmp htmp => ?_)
  ·refine qm ?_;refine qm ?_;refine qm ?_;refine qr fun p15 hp15 => ?_;refine qf (fo := 0) fun p16 hp16 => ?_;refine qR ?_;refine qg ?_;refine qm ?_;refine EvO.two 19 rfl (fun hg7 => ?_) (fun hg7 => ?_)
   ·refine qm ?_ (hg := wi hg7);refine qm ?_ (hg := wi hg7);refine qm ?_ (hg := wi hg7);refine qr (fun p23 hp23 => ?_) (hg := wi hg7);refine qf (fo := 1) (fun p24 hp24 => ?_) (hg := wi hg7);refine qR ?_ (hg := wi hg7);refine qg ?_ (hg := wi hg7);refine qt hg7 ?_;refine EvO.nil (leafT ?_ ?_)
    ·dsimp only [setW,List.foldl,nth,u2,u1]
     all_goals (first | rfl | simp)
    ·dsimp only [Fr.putO,Fr.put,Fr.clean,Fr.ev,Fr.get,nth,V.look,u1,u2,v1,v2,v3,v4,v5,v6,v7,List.length,u3,u4,Nat.reduceSub,Nat.reduceAdd,List.map]
     all_goals (simp [hg7]; done)
   ·refine qs ?_ (hg := wn hg7);refine qs ?_ (hg := wn hg7);refine qs ?_ (hg := wn hg7);refine qs ?_ (hg := wn hg7);refine qs ?_ (hg := wn hg7);refine qs ?_ (hg := wn hg7);refine qs ?_ (hg := wn hg7);refine qu hg7 ?_;refine EvO.nil (leafT ?_ ?_)
    ·dsimp only [setW,List.foldl,nth,u2,u1]
     all_goals (first | rfl | simp)
    ·dsimp only [Fr.putO,Fr.put,Fr.clean,Fr.ev,Fr.get,nth,V.look,u1,u2,v1,v2,v3,v4,v5,v6,v7,List.length,u3,u4,Nat.reduceSub,Nat.reduceAdd,List.map]
     all_goals (simp [hg7]; done)
  dsimp only [setW,List.foldl,nth,u2,u1];dsimp only [Fr.putO,Fr.put,Fr.clean,Fr.ev,Fr.get,nth,V.look,u1,u2,v1,v2,v3,v4,v5,v6,v7,List.length,u3,u4,Nat.reduceSub,Nat.reduceAdd,List.map]
  have ht : hasS (l.take (i + 1)) r = (decide (r >= q.1) && decide (r <= q.2)) := by
   rw [List.take_add_one,hq,Option.toList_some,hasS_snoc,hn]; simp
  refine qc (fun h2 => ?_) (fun h2 => ?_) <;> try simp only [cs] at h2
  ·refine qq ?_;refine qj fun K hK => ?_;refine qm ?_;refine qe hK ?_;rw [hasS_pre (i := i + 1) (by rw [ht]; simp [h2])];refine EvC.ret ⟨rx,_,rfl,rl hSb hH (rfl)⟩
  ·refine EvC.skip ?_;refine qj fun K hK => ?_;refine qm ?_;refine qA ?_;refine qm ?_;refine qe hK ?_;exact ⟨mm - 1,by omega,⟨i + 1,rfl,hH,by omega,by rw [ht]; simp [h2]⟩⟩
 ·refine EvC.exit ?_;refine qq ?_;refine qj fun K hK => ?_;refine qm ?_;refine qe hK ?_;have : hasS l r = false := by rw [<- hn,List.take_of_length_le (by omega)]
  rw [this];refine EvC.ret ⟨rx,_,rfl,rl hSb hH (rfl)⟩
def ixF_Jb (fr : Go.V.Fr) (k : Nat) : Go.V.D := Go.V.nth .junk fr.loc k
def partsS : List Rg := [(0,55295),(57344,1114111)]
def oneP (lo hi : Int) (p : Rg) : List Rg := if max lo p.1 <= min hi p.2 then [(max lo p.1,min hi p.2)] else []
theorem runesS_parts (q : Rg) : runesS q = partsS.flatMap (oneP (max q.1 0) (min q.2 1114111)) := by
 simp [runesS,partsS,oneP]
theorem runes_ev {s0 : St} (q : Rg) : Ev pv 114 [.agg (rangeC q)] s0 (rangesV (runesS q)) s0 := by
 refine Ev.mk1 rfl fi114 rfl rfl rfl ?_;dsimp only [u3,u4,List.length,Nat.reduceSub,Nat.reduceAdd,w1,w2];obtain ⟨hSb,hF,hH⟩ := ri s0;generalize enterSt .ro s0 = S at *;refine qq ?_;refine qj fun K hK => ?_;refine qb hH fun k1 st hk1 hH => ?_;dsimp only [u2,u1,u3,u4,setMany,u5,u6,D.cells,Nat.reduceAdd,rangeC] at hH;refine qm ?_;refine qe hK ?_;refine qq ?_;refine qj fun K hK => ?_;refine qp (o := 0) ?_;refine ql hH at0 ?_;refine EvO.maxS (t1 := 0) (t2 := 0) rfl (ev rfl) (ev rfl) (by dsimp only [Fr.put,u1,u2] <;> rfl) ?_;refine qp (o := 1) ?_;refine ql hH at0 ?_;refine EvO.minS (t1 := 0) (t2 := 0) rfl (ev rfl) (ev rfl) (by dsimp only [Fr.put,u1,u2] <;> rfl) ?_;refine qp (o := 0) ?_;refine qT hH at0 fun st hH => ?_;dsimp only [u2,u1,u3,u4,setMany,u5,u6,D.cells,Nat.reduceAdd,rangeC] at hH;refine qp (o := 1) ?_;refine qT hH at0 fun st hH => ?_;dsimp only [u2,u1,u3,u4,setMany,u5,u6,D.cells,Nat.reduceAdd,rangeC] at hH;refine qe hK ?_;generalize hlo : max q.1 0 = lo at *;generalize hhi : min q.2 1114111 = hi at *;refine qq ?_;refine qj fun K hK => ?_;refine qm ?_;refine qe hK ?_;have hH := hH.nulE 2;refine qq ?_;refine qq ?_;refine qj fun K hK => ?_;refine qg ?_;refine qg ?_;refine qh (s := 2) (vs := [_,_]) hH fun k17 st hk17 hH => ?_;dsimp only [u2,u1,u3,u4,setMany,u5,u6,D.cells,Nat.reduceAdd,rangeC] at hH;refine qn ?_ (hR := hH.rows at0);simp only [List.length_map,List.length_cons,List.length_nil];refine qm ?_;refine qe hK ?_;refine EvC.block ?_;refine EvC.loop (fun mm fr st => ∃ (i : Nat) (x : D),fr.clean = ⟨20, [.agg (rangeC q), .ptr k1 0 0, .nul,x,ixF_Jb fr 4,ixF_Jb fr 5,ixF_Jb fr 6,ixF_Jb fr 7,ixF_Jb fr 8,ixF_Jb fr 9,ixF_Jb fr 10,ixF_Jb fr 11,ixF_Jb fr 12,ixF_Jb fr 13,ixF_Jb fr 14,ixF_Jb fr 15,ixF_Jb fr 16, .win k17 0 0 2 2, .int .i64 2, .int .i64 (i : Nat)], []⟩ /\ Has s0.bs.length S st [.lst (.win k17 0 0 2 2) 2 (partsS.map rangeC), .lst x 2 (((partsS.take i).flatMap (oneP lo hi)).map rangeC), .box k1 (.mem 0 false [.int .i32 lo, .int .i32 hi])] /\ (i + mm = 2) /\ (((partsS.take i).flatMap (oneP lo hi)).length <= i)) (2) ?_ ?_
 ·exact ⟨0, .nul,rfl,hH,by omega,by simp⟩
 rintro mm fr st ⟨i,x,hfr,hH,hij,hb⟩;rw [hfr];clear hfr;generalize ixF_Jb fr = ee;clear fr;refine qq ?_;refine qj fun K hK => ?_;refine qg ?_;refine qe hK ?_;refine qq ?_;refine EvC.cond (by rfl) (fun h1 => ?_) (fun h1 => ?_) <;> try simp only [decide_eq_true_eq,decide_eq_false_iff_not] at h1
 ·refine EvC.skip ?_
  obtain ⟨p,hp⟩ : ∃ p,partsS[i]? = some p := ⟨partsS[i]'(by simp [partsS]; omega),List.getElem?_eq_getElem _⟩
  have hr := range_get hp;refine qq ?_;refine EvC.block ?_;refine qq ?_;refine qj fun K hK => ?_;refine qi hH at0 fun p21 hp21 => ?_;refine EvO.oloadS hH rfl (ev rfl) (by assumption) (by exact at0) (by assumption) rfl (put_T rfl _) ?_;refine qa hH fun k5 st hk5 hH => ?_;refine qS hH at0 fun st hH => ?_;dsimp only [u2,u1,u3,u4,setMany,u5,u6,D.cells,Nat.reduceAdd,rangeC] at hH;refine qe hK ?_;refine qq ?_;refine qj fun K hK => ?_;refine qp (o := 0) ?_;refine ql hH at3 ?_;refine qp (o := 0) ?_;refine ql hH at0 ?_;refine EvO.maxS (t1 := 0) (t2 := 0) rfl (ev rfl) (ev rfl) (put_T rfl _) ?_;refine qp (o := 1) ?_;refine ql hH at3 ?_;refine qp (o := 1) ?_;refine ql hH at0 ?_;refine EvO.minS (t1 := 0) (t2 := 0) rfl (ev rfl) (ev rfl) (put_T rfl _) ?_;refine qg ?_;refine qa hH fun k6 st hk6 hH => ?_;refine qS hH at0 fun st hH => ?_;dsimp only [u2,u1,u3,u4,setMany,u5,u6,D.cells,Nat.reduceAdd,rangeC] at hH;refine qe hK ?_;refine qq ?_;refine qj fun K hK => ?_;refine qp (o := 0) ?_;refine ql hH at0 ?_;refine qp (o := 1) ?_;refine ql hH at0 ?_;refine qg ?_;refine qe hK ?_;refine EvC.cond (by rfl) (fun h2 => ?_) (fun h2 => ?_) <;> try simp only [decide_eq_true_eq,decide_eq_false_iff_not] at h2
  ·refine qj fun K hK => ?_;refine qm ?_;refine EvO.hloadS (m := 2) hH rfl (ev rfl) (by exact at0) (by dsimp only [List.drop_succ_cons,List.drop_zero,List.take_succ_cons,List.take_zero,rangeC] <;> rfl) rfl rfl (put_T rfl _) ?_;refine qh (s := 2) (vs := [_]) hH fun k41 st hk41 hH => ?_;refine EvO.happend (s := 2) hH rfl (ev rfl) (ev rfl) (by exact at4) (by exact hH.rows (by exact at0)) rfl rfl rfl rfl rfl rfl rfl ⟨(Nat.le_of_ble_eq_true rfl),(Nat.le_of_ble_eq_true rfl)⟩ (fun _ => (put_T rfl _)) (by simp only [List.length_cons,List.length_nil,List.length_map] <;> omega) (by exact .inl hF) (fun x42 st hH => ?_);dsimp only [u2,u1,u3,u4,setMany,u5,u6,D.cells,Nat.reduceAdd,rangeC] at hH;refine qm ?_;refine qe hK ?_;refine qj fun K hK => ?_;refine qA ?_;refine qm ?_;refine qe hK ?_
   have h3 : (partsS.take (i + 1)).flatMap (oneP lo hi) = (partsS.take i).flatMap (oneP lo hi) ++ [(max lo p.1,min hi p.2)] := by
    rw [List.take_add_one,hp,List.flatMap_append]; simp [oneP,h2]
   exact ⟨mm - 1,by omega,⟨i + 1,x42,rfl,(by rw [h3,List.map_append]; exact hH.drop 3),by omega,by rw [h3]; simp only [List.length_append,List.length_cons,List.length_nil]; omega⟩⟩
  ·refine EvC.skip ?_;refine qj fun K hK => ?_;refine qA ?_;refine qm ?_;refine qe hK ?_
   have h3 : (partsS.take (i + 1)).flatMap (oneP lo hi) = (partsS.take i).flatMap (oneP lo hi) := by
    rw [List.take_add_one,hp,List.flatMap_append]; simp [oneP,h2]
   exact ⟨mm - 1,by omega,⟨i + 1,x,rfl,(by rw [h3]; exact hH.drop 2),by omega,by rw [h3]; omega⟩⟩
 ·refine EvC.exit ?_;refine qq ?_;refine qj fun K hK => ?_;refine qm ?_;refine qm ?_;refine qe hK ?_;rw [<- rangesV_el];have h3 : partsS.take i = partsS := List.take_of_length_le (by simp [partsS]; omega);rw [h3] at hH;refine EvC.ret ⟨rx,_,rfl,rl hSb hH ?_⟩;refine Eq.trans (hH.freeze at1 (range_plain _) (n := 15) (by decide)) ?_;rw [runesS_parts,hlo,hhi]
theorem runesS_lo (q x : Rg) (h : x ∈ runesS q) : 0 <= x.1 /\ x.1 <= 1114111 := by
 obtain ⟨h1,h2,h3⟩ := runesS_le q x h;omega
theorem runesS_len (q : Rg) : (runesS q).length <= 2 := by
 unfold runesS; split <;> split <;> simp
theorem flatMap_len (l : List Rg) : (l.flatMap runesS).length <= 2 * l.length := by
 induction l with
 | nil => simp
 | cons x l ih => simp only [List.flatMap_cons,List.length_append,List.length_cons]; have := runesS_len x; omega
theorem toRs_some : ∀ {l : List Rg},(∀ x ∈ l,0 <= x.1 /\ x.1 <= 1114111) -> ∃ m : List Rs,encD m = (l.map rangeC).flatten /\ m.map (fun x => (x.lo,x.hi)) = l
 | [],_ => ⟨[],rfl,rfl⟩
 | x :: l,h => by
  obtain ⟨m,h1,h2⟩ := toRs_some (l := l) fun y hy => h y (List.mem_cons_of_mem _ hy);obtain ⟨h3,h4⟩ := h x (List.mem_cons_self ..);exact ⟨⟨x.1,x.2,h3,h4⟩ :: m,by simp only [encD,h1,List.map_cons,List.flatten_cons,rangeC,List.cons_append,List.nil_append],by simp [h2]⟩
theorem encD_range (m : List Rs) : encD m = ((m.map fun x => ((x.lo,x.hi) : Rg)).map rangeC).flatten := by
 induction m with
 | nil => rfl
 | cons x m ih => simp only [encD,ih,List.map_cons,List.flatten_cons,rangeC,List.cons_append,List.nil_append]
theorem has_sort {N : Nat} {S st : St} {H : List Ent} {j : Nat} {x : D} {l : List Rg} (hH : Has N S st H) (hj : H[j]? = some (.lst x 2 (l.map rangeC))) (h0 : l = [] -> x = .nul) (hl : l.length <= 1073741824) (hr : ∀ y ∈ l,0 <= y.1 /\ y.1 <= 1114111) :
  ∃ (st' : St) (l' : List Rg),Ev pv 115 [x, .fn 116 []] st (.tup []) st' /\ Has N S st' (H.set j (.lst x 2 (l'.map rangeC))) /\ l'.Perm l /\ l'.Pairwise fun a b => a.1 <= b.1 := by
 obtain ⟨m,h1,h2⟩ := toRs_some hr;obtain ⟨h3,h4⟩ := srt_facts m;have hml : m.length = l.length := by rw [<- h2]; simp
 have hperm : ((srt m).map fun x => ((x.lo,x.hi) : Rg)).Perm l := by rw [<- h2]; exact h3.map _
 have hpair : ((srt m).map fun x => ((x.lo,x.hi) : Rg)).Pairwise fun a b => a.1 <= b.1 := by rw [List.pairwise_map]; exact h4
 have hlen : (srt m).length = l.length := h3.length_eq.trans hml;have hown := hH.own hj;generalize hes : l.map rangeC = es at *;have hel : es.length = l.length := by rw [<- hes]; simp
 cases hown with
 | nul =>
  have hl0 : l = [] := by cases l with | nil => rfl | cons _ _ => simp at hel
  refine ⟨st,(srt m).map fun x => (x.lo,x.hi),Ev.prim rfl rfl,?_,hperm,hpair⟩
  have : (srt m).map (fun x => ((x.lo,x.hi) : Rg)) = [] := by
   cases hs : srt m with
   | nil => rfl
   | cons a b => rw [hs,hl0] at hlen; simp at hlen
  rw [this];exact hH.upd hj (fun _ _ _ => rfl) (Nat.le_refl _) rfl rfl .nul (fun k hk => .inl hk) fun k hk => by simp only [Ent.lst,D.ref] at hk; omega
 | win k ver off es c hm hle hc he =>
  have hne : l ≠ [] := fun e => by have := h0 e; cases this
  have hl1 : 1 <= l.length := by cases l with | nil => exact absurd rfl hne | cons _ _ => simp
  have hk := (hH.ok j _ hj).2 k (by simp only [Ent.lst,D.ref]);have hel2 : (encD (srt m)).length = es.length * 2 := by rw [encD_len,hlen,hel]; omega
  have hwr : st.wr k ver off (encD (srt m)) = some ⟨st.bs.set k (.mem ver true (c.take off ++ encD (srt m) ++ c.drop (off + (encD (srt m)).length))),st.flr,st.ro⟩ :=
   wr_own hm (by omega) (canW_has hH hk.1 (.inr (encD_refs _)))
  refine ⟨⟨st.bs.set k (.mem ver true (c.take off ++ encD (srt m) ++ c.drop (off + (encD (srt m)).length))),st.flr,st.ro⟩,(srt m).map fun x => (x.lo,x.hi),Ev.prim rfl ?_,?_,hperm,hpair⟩
  ·show srtP [.win k ver off es.length 2, .fn 116 []] st = _;have hcc : (c.drop off).take (2 * es.length) = encD m := by rw [Nat.mul_comm,hc,h1]
   simp only [srtP,St.mem_of hm,hcc,rgD_enc,srtQ];rw [decide_eq_true (⟨by rw [hml,hel],by omega,by omega⟩ : m.length = es.length /\ 1 <= es.length /\ es.length < 1099511627776)];simp only [hwr]
  ·refine hH.upd hj (fun n hn hne => ?_) (by simp) rfl rfl ?_ (fun n hn => .inl hn) fun n hn => ?_
   ·simp only; rw [List.getElem?_set_ne (fun e => hne (by simp only [Ent.lst,D.ref]; omega))]
   ·have h9 := OwnP.win (st := ⟨st.bs.set k (.mem ver true (c.take off ++ encD (srt m) ++ c.drop (off + (encD (srt m)).length))),st.flr,st.ro⟩) (s := 2) k ver off (((srt m).map fun x => ((x.lo,x.hi) : Rg)).map rangeC) (c.take off ++ encD (srt m) ++ c.drop (off + (encD (srt m)).length))
     (by simp only; rw [List.getElem?_set_self hk.2]) (by simp only [List.length_append,List.length_take,List.length_map,List.length_drop,hel2]; omega) ?_ (range_len _)
    ·simp only [List.length_map,hlen] at h9;rw [hel]; exact h9
    ·have hoff : (c.take off).length = off := by simp; omega
     rw [List.append_assoc,List.drop_left' hoff, <- encD_range,List.take_left' (by simp only [List.length_map,hlen]; omega)]
   ·simp only [Ent.lst,D.ref] at hn; simp only [List.length_set]; omega
theorem join_pos (l : List Rg) : (l.foldl joinR []).length <= l.length := by
 have key : ∀ (l acc : List Rg),(l.foldl joinR acc).length <= acc.length + l.length := by
  intro l
  induction l with
  | nil => intro acc; simp
  | cons x l ih =>
   intro acc;simp only [List.foldl_cons,List.length_cons];have := ih (joinR acc x)
   have h2 : (joinR acc x).length <= acc.length + 1 := by
    unfold joinR; split
    ·simp
    ·split <;> simp
   omega
 have := key l []
 simpa using this
theorem join_hi {l : List Rg} (h : ∀ x ∈ l,0 <= x.2 /\ x.2 <= 1114111) : ∀ x ∈ l.foldl joinR [],0 <= x.2 /\ x.2 <= 1114111 := by
 have key : ∀ (l acc : List Rg),(∀ x ∈ l,0 <= x.2 /\ x.2 <= 1114111) -> (∀ x ∈ acc,0 <= x.2 /\ x.2 <= 1114111) -> ∀ x ∈ l.foldl joinR acc,0 <= x.2 /\ x.2 <= 1114111 := by
  intro l
  induction l with
  | nil => intro acc _ h x hx; exact h x hx
  | cons y l ih =>
   intro acc h1 h2;refine ih _ (fun x hx => h1 x (List.mem_cons_of_mem _ hx)) fun x hx => ?_;have hy := h1 y (List.mem_cons_self ..);unfold joinR at hx
   split at hx
   ·simp only [List.mem_cons,List.not_mem_nil,or_false] at hx; rw [hx]; exact hy
   ·rename_i k rest;have hk := h2 k (List.mem_cons_self ..)
    split at hx
    ·rcases List.mem_cons.1 hx with rfl | hx
     ·simp only; omega
     ·exact h2 x (List.mem_cons_of_mem _ hx)
    ·rcases List.mem_cons.1 hx with rfl | hx
     ·exact hy
     ·exact h2 x hx
 exact key l [] h (fun x hx => by cases hx)
theorem last_get (h : Rg) (t : List Rg) : ((h :: t).reverse.map rangeC)[t.length]? = some (rangeC h) := by
 rw [List.getElem?_map,List.reverse_cons,List.getElem?_append_right (by simp)]; simp
theorem last_set (h h' : Rg) (t : List Rg) : ((h :: t).reverse.map rangeC).set t.length (rangeC h') = (h' :: t).reverse.map rangeC := by
 rw [List.reverse_cons,List.map_append,List.set_append_right _ _ (by simp)]; simp
theorem make_ev {s0 : St} {x : D} {l : List Rg} (hx : V.Rows s0 2 x (l.map rangeC)) (hl : l.length <= 268435456) : ∃ d,Ev pv 103 [x] s0 d s0 /\ ∃ all : List Rg,d = rangesV (all.foldl joinR []).reverse /\ all.Perm (l.flatMap runesS) /\ all.Pairwise fun a b => a.1 <= b.1 := by
 refine Ev.mkR rfl fi103 rfl rfl rfl ?_;dsimp only [u3,u4,List.length,Nat.reduceSub,Nat.reduceAdd,w1,w2];obtain ⟨hSb,hF,hH⟩ := ri s0;generalize enterSt .ro s0 = S at *;have hx := Arg.of hx hSb;have hfl := flatMap_len l
 have hfi : ∀ i,((l.take i).flatMap runesS).length <= 2 * l.length := fun i => by
  have := flatMap_len (l.take i);simp only [List.length_take] at this;omega
 refine qq ?_;refine qj fun K hK => ?_;refine qm ?_;refine qe hK ?_;refine qq ?_;refine qj fun K hK => ?_;refine qm ?_;refine qm ?_;refine qe hK ?_;refine qq ?_;refine qq ?_;refine qj fun K hK => ?_;refine qm ?_;refine qn ?_;simp only [List.length_map];refine qm ?_;refine qe hK ?_;have hH := hH.nulE 2;refine EvC.block ?_;refine EvC.loop (fun mm fr st => ∃ (i : Nat) (y : D),fr.clean = ⟨26, [x,ixF_Jb fr 1,ixF_Jb fr 2,y, .nul,ixF_Jb fr 5,ixF_Jb fr 6,ixF_Jb fr 7,ixF_Jb fr 8,ixF_Jb fr 9,x, .int .i64 (l.length : Nat), .int .i64 (i : Nat),ixF_Jb fr 13,ixF_Jb fr 14,ixF_Jb fr 15,ixF_Jb fr 16,ixF_Jb fr 17,ixF_Jb fr 18,ixF_Jb fr 19,ixF_Jb fr 20,ixF_Jb fr 21,ixF_Jb fr 22,ixF_Jb fr 23,ixF_Jb fr 24,ixF_Jb fr 25], []⟩ /\ Has s0.bs.length S st [.lst y 2 (((l.take i).flatMap runesS).map rangeC)] /\ (i + mm = l.length) /\ ((l.take i).flatMap runesS = [] -> y = .nul)) (l.length) ?_ ?_
 ·exact ⟨0, .nul,rfl,hH,by omega,fun _ => rfl⟩
 rintro mm fr st ⟨i,y,hfr,hH,hi,hnul⟩;rw [hfr];clear hfr;generalize ixF_Jb fr = ee;clear fr;refine qq ?_;refine qj fun K hK => ?_;refine qg ?_;refine qe hK ?_;have hm := hfi i;refine qq ?_;refine EvC.cond (by rfl) (fun h1 => ?_) (fun h1 => ?_) <;> try simp only [decide_eq_true_eq,decide_eq_false_iff_not] at h1
 ·refine EvC.skip ?_
  obtain ⟨q,hq⟩ : ∃ q,l[i]? = some q := ⟨l[i]'(by omega),List.getElem?_eq_getElem _⟩
  have hr := range_get hq
  have hm1 : (l.take (i + 1)).flatMap runesS = (l.take i).flatMap runesS ++ runesS q := by
   rw [List.take_add_one,hq]; simp
  have hrq := runesS_len q;refine qq ?_;refine EvC.block ?_;refine qq ?_;refine qj fun K hK => ?_;refine qr fun p14 hp14 => ?_;refine EvO.rloadS rfl (ev rfl) (by assumption) rfl (by dsimp only [Fr.put,u1,u2] <;> rfl) ?_;refine qa hH fun k6 st hk6 hH => ?_;refine qS hH at0 fun st hH => ?_;dsimp only [u2,u1,u3,u4,setMany,u5,u6,D.cells,Nat.reduceAdd,rangeC] at hH;refine qe hK ?_;refine qj fun K hK => ?_;refine qm ?_;refine EvO.hloadS (m := 2) hH rfl (ev rfl) (by exact at0) (by dsimp only [List.drop_succ_cons,List.drop_zero,List.take_succ_cons,List.take_zero,rangeC] <;> rfl) rfl rfl (by dsimp only [Fr.put,u1,u2] <;> rfl) ?_;refine qv (runes_ev q) ?_;refine EvO.happend0 hH rfl rfl rfl (by exact at1) (rangesV_rows _ _) rfl rfl rfl rfl rfl rfl rfl ⟨(Nat.le_of_ble_eq_true rfl),(Nat.le_of_ble_eq_true rfl)⟩ (fun _ => by dsimp only [Fr.put,u1,u2] <;> rfl) (by simp only [List.length_map]; omega) (.inl hF) (fun x19 st hnul2 hH => ?_);dsimp only [u2,u1] at hH;refine qm ?_;refine qe hK ?_;refine qj fun K hK => ?_;refine qA ?_;refine qm ?_;refine qe hK ?_;exact ⟨mm - 1,by omega,⟨i + 1,x19,rfl,(by rw [hm1,List.map_append]; exact hH.drop 1),by omega,by rw [hm1]; intro h; obtain ⟨h3,h4⟩ := List.append_eq_nil_iff.1 h; rw [hnul2 (by rw [h4]; rfl)]; exact hnul h3⟩⟩
 ·refine EvC.exit ?_;have hT : l.take i = l := List.take_of_length_le (by omega);rw [hT] at hH hnul hm
  obtain ⟨st2,all,hev,hH2,hperm,hpair⟩ := has_sort hH at0 hnul (by omega) (fun z hz => by
   obtain ⟨w,_,hw⟩ := List.mem_flatMap.1 hz
   exact runesS_lo w z hw)
  have hlen := hperm.length_eq
  have hbd : ∀ z ∈ all,0 <= z.2 /\ z.2 <= 1114111 := fun z hz => by
   obtain ⟨w,_,hw⟩ := List.mem_flatMap.1 (hperm.mem_iff.1 hz);have := runesS_le w z hw;omega
  refine qq ?_;refine qj fun K hK => ?_;refine qm ?_;refine qv (hev) ?_;refine qe hK ?_;have hH := hH2;dsimp only [u2] at hH;clear hH2 hev;have hR := hH.rows at0;have hH := hH.nulE 2;refine qq ?_;refine qq ?_;refine qj fun K hK => ?_;refine qm ?_;refine qn ?_ (hR := hH.rows at1);simp only [List.length_map];refine qm ?_;refine qe hK ?_;refine EvC.block ?_;refine EvC.loop (fun mm fr st => ∃ (i : Nat) (z : D),fr.clean = ⟨26, [x,ixF_Jb fr 1,ixF_Jb fr 2,y,z,ixF_Jb fr 5,ixF_Jb fr 6,ixF_Jb fr 7,ixF_Jb fr 8,ixF_Jb fr 9,ixF_Jb fr 10,ixF_Jb fr 11,ixF_Jb fr 12,ixF_Jb fr 13,ixF_Jb fr 14,ixF_Jb fr 15,ixF_Jb fr 16,ixF_Jb fr 17,ixF_Jb fr 18,ixF_Jb fr 19,ixF_Jb fr 20,ixF_Jb fr 21,ixF_Jb fr 22,y, .int .i64 (all.length : Nat), .int .i64 (i : Nat)], []⟩ /\ Has s0.bs.length S st [.lst z 2 (((all.take i).foldl joinR []).reverse.map rangeC), .lst y 2 (all.map rangeC)] /\ (i + mm = all.length)) (all.length) ?_ ?_
  ·exact ⟨0, .nul,rfl,hH,by omega⟩
  rintro mm fr st ⟨i,z,hfr,hH,hi⟩;rw [hfr];clear hfr;generalize ixF_Jb fr = ee;clear fr;refine qq ?_;refine qj fun K hK => ?_;refine qg ?_;refine qe hK ?_
  have hjl : ((all.take i).foldl joinR []).length <= all.length := by
   have := join_pos (all.take i);simp only [List.length_take] at this; omega
  refine qq ?_;refine EvC.cond (by rfl) (fun h1 => ?_) (fun h1 => ?_) <;> try simp only [decide_eq_true_eq,decide_eq_false_iff_not] at h1
  ·refine EvC.skip ?_
   obtain ⟨q,hq⟩ : ∃ q,all[i]? = some q := ⟨all[i]'(by omega),List.getElem?_eq_getElem _⟩
   have hr := range_get hq
   have hj1 : (all.take (i + 1)).foldl joinR [] = joinR ((all.take i).foldl joinR []) q := by
    rw [List.take_add_one,hq,List.foldl_append]; rfl
   generalize hacc : (all.take i).foldl joinR [] = acc at *;refine qq ?_;refine EvC.block ?_;refine qq ?_;refine qj fun K hK => ?_;refine qi hH at1 fun p27 hp27 => ?_;refine EvO.oloadS hH rfl (ev rfl) (by assumption) (by exact at1) (by assumption) rfl (put_T rfl _) ?_;refine qa hH fun k8 st hk8 hH => ?_;refine qS hH at0 fun st hH => ?_;dsimp only [u2,u1,u3,u4,setMany,u5,u6,D.cells,Nat.reduceAdd,rangeC] at hH;refine qe hK ?_
   rcases acc with _ | ⟨h,t⟩
   ·refine qq ?_;refine qj fun K hK => ?_;refine qm ?_;refine qn ?_ (hR := hH.rows at1);simp only [List.length_map,List.length_nil,List.length_reverse];refine EvO.subZ (z := (-1)) rfl (ev rfl) (ev rfl) (by (try simp only [List.length_reverse,List.length_cons,List.length_nil,List.length_append,List.length_map,List.length_set]); rw [wrap_i64 (by omega) (by omega)] <;> omega) (put_T rfl _) ?_;refine qm ?_;refine qe hK ?_;have hg2 : decide ((-1 : Int) >= 0) = false := by decide
    refine qq ?_;refine EvC.cutT 44 (.bool false) [] ?_ (fun ff tmp htmp => ?_)
    ·refine qm ?_;refine qg ?_;refine qm ?_;refine qs ?_ (hg := wn hg2);refine qs ?_ (hg := wn hg2);refine qs ?_ (hg := wn hg2);refine qs ?_ (hg := wn hg2);refine qs ?_ (hg := wn hg2);refine qs ?_ (hg := wn hg2);refine qs ?_ (hg := wn hg2);refine qs ?_ (hg := wn hg2);refine qs ?_ (hg := wn hg2);refine qu hg2 ?_;refine EvO.nil (leafT ?_ ?_)
     ·dsimp only [setW,List.foldl,nth,u2,u1]
      all_goals (first | rfl | simp)
     ·dsimp only [Fr.putO,Fr.put,Fr.clean,Fr.ev,Fr.get,nth,look,u1,u2,v1,v2,v4]
      all_goals (first | rfl | (simp [hg2]; done) | (simp_all; done) | (simp [hg2]; omega) | (simp_all; omega))
    dsimp only [setW,List.foldl,nth,u2,u1];dsimp only [Fr.putO,Fr.put,Fr.clean,Fr.ev,Fr.get,nth,look,u1,u2,v1,v2,v4];refine qC ?_;refine qj fun K hK => ?_;refine qm ?_;refine EvO.hloadS (m := 2) hH rfl (ev rfl) (by exact at0) (by dsimp only [List.drop_succ_cons,List.drop_zero,List.take_succ_cons,List.take_zero,rangeC] <;> rfl) rfl rfl (put_T rfl _) ?_;refine qh (s := 2) (vs := [_]) hH fun k59 st hk59 hH => ?_;refine EvO.happend (s := 2) hH rfl (ev rfl) (ev rfl) (by exact at2) (by exact hH.rows (by exact at0)) rfl rfl rfl rfl rfl rfl rfl ⟨(Nat.le_of_ble_eq_true rfl),(Nat.le_of_ble_eq_true rfl)⟩ (fun _ => (put_T rfl _)) (by simp only [List.length_cons,List.length_nil,List.length_map,List.length_reverse] <;> omega) (by exact .inl hF) (fun x60 st hH => ?_);dsimp only [u2,u1,u3,u4,setMany,u5,u6,D.cells,Nat.reduceAdd,rangeC] at hH;refine qm ?_;refine qe hK ?_;refine qj fun K hK => ?_;refine qA ?_;refine qm ?_;refine qe hK ?_;exact ⟨mm - 1,by omega,⟨i + 1,x60,rfl,(by rw [hj1]; exact hH.drop 2),by omega⟩⟩
   ·simp only [List.length_cons] at hjl;refine qq ?_;refine qj fun K hK => ?_;refine qm ?_;refine qn ?_ (hR := hH.rows at1);simp only [List.length_map,List.length_cons,List.length_reverse];refine EvO.subZ (z := ((t.length : Nat) : Int)) rfl (ev rfl) (ev rfl) (by (try simp only [List.length_reverse,List.length_cons,List.length_nil,List.length_append,List.length_map,List.length_set]); rw [wrap_i64 (by omega) (by omega)] <;> omega) (put_T rfl _) ?_;refine qm ?_;refine qe hK ?_;have hlast := last_get h t;have hset := last_set h (h.1,max h.2 q.2) t;have hhi := join_hi (l := all.take i) (fun x hx => hbd x (List.mem_of_mem_take hx)) h (by rw [hacc]; exact List.mem_cons_self ..);have hg2 : decide (((t.length : Nat) : Int) >= 0) = true := by rw [decide_eq_true]; omega
    refine qq ?_;refine EvC.cutT 44 (.bool (decide (q.1 <= h.2 + 1))) [] ?_ (fun ff tmp htmp => ?_)
    ·refine qm ?_;refine qg ?_;refine qm ?_;refine qp (o := 0) ?_ (hg := wi hg2);refine ql hH at0 ?_ (hg := wi hg2);refine qm ?_ (hg := wi hg2);refine qm ?_ (hg := wi hg2);refine qi hH at1 (fun p39 hp39 => ?_) (hg := wi hg2);refine EvO.ofieldN (fo := 1) (m := 0) (o2 := 1) (wantD_is rfl rfl rfl hg2) (ev rfl) (by assumption) rfl rfl rfl (fun _ => (put_T rfl _)) (fun p40 hp40 => ?_);refine qo hH at1 ?_ (hg := wi hg2);refine EvO.addS32 (wantD_is rfl rfl rfl hg2) (ev rfl) (ev rfl) (by omega) (by omega) (put_T rfl _) ?_;refine qg ?_ (hg := wi hg2);refine qt hg2 ?_;refine EvO.nil (leafT ?_ ?_)
     ·dsimp only [setW,List.foldl,nth,u2,u1]
      all_goals (first | rfl | simp)
     ·dsimp only [Fr.putO,Fr.put,Fr.clean,Fr.ev,Fr.get,nth,look,u1,u2,v1,v2,v4]
      all_goals (first | rfl | (simp [hg2]; done) | (simp_all; done) | (simp [hg2]; omega) | (simp_all; omega))
    dsimp only [setW,List.foldl,nth,u2,u1];dsimp only [Fr.putO,Fr.put,Fr.clean,Fr.ev,Fr.get,nth,look,u1,u2,v1,v2,v4];refine EvC.cond (by assumption) (fun h2 => ?_) (fun h2 => ?_) <;> try simp only [decide_eq_true_eq,decide_eq_false_iff_not] at h2
    ·refine qj fun K hK => ?_;refine qm ?_;refine qm ?_;refine qm ?_;refine qm ?_;refine qi hH at1 fun p49 hp49 => ?_;refine EvO.ofieldN (fo := 1) (m := 0) (o2 := 1) rfl (ev rfl) (by assumption) rfl rfl rfl (fun _ => (put_T rfl _)) (fun p50 hp50 => ?_);refine qo hH at1 ?_;refine qp (o := 1) ?_;refine ql hH at0 ?_;refine EvO.maxS (t1 := 0) (t2 := 0) rfl (ev rfl) (ev rfl) (put_T rfl _) ?_;refine qi hH at1 fun p55 hp55 => ?_;refine EvO.ofieldN (fo := 1) (m := 0) (o2 := 1) rfl (ev rfl) (by assumption) rfl rfl rfl (fun _ => (put_T rfl _)) (fun p56 hp56 => ?_);refine EvO.ostore hH rfl (ev rfl) (ev rfl) (by assumption) rfl rfl (by exact at1) (by assumption) (Nat.le_of_ble_eq_true rfl) (by exact .inl hF) (fun st hH => ?_);dsimp only [u2,u1,u3,u4,setMany,u5,u6,D.cells,Nat.reduceAdd,rangeC] at hH;refine qe hK ?_;refine qj fun K hK => ?_;refine qA ?_;refine qm ?_;refine qe hK ?_;exact ⟨mm - 1,by omega,⟨i + 1,z,rfl,(by rw [hj1]; simp only [joinR,if_pos h2]; rw [<- hset]; exact hH.drop 1),by omega⟩⟩
    ·refine qj fun K hK => ?_;refine qm ?_;refine EvO.hloadS (m := 2) hH rfl (ev rfl) (by exact at0) (by dsimp only [List.drop_succ_cons,List.drop_zero,List.take_succ_cons,List.take_zero,rangeC] <;> rfl) rfl rfl (put_T rfl _) ?_;refine qh (s := 2) (vs := [_]) hH fun k59 st hk59 hH => ?_;refine EvO.happend (s := 2) hH rfl (ev rfl) (ev rfl) (by exact at2) (by exact hH.rows (by exact at0)) rfl rfl rfl rfl rfl rfl rfl ⟨(Nat.le_of_ble_eq_true rfl),(Nat.le_of_ble_eq_true rfl)⟩ (fun _ => (put_T rfl _)) (by simp only [List.length_cons,List.length_nil,List.length_map,List.length_reverse] <;> omega) (by exact .inl hF) (fun x60 st hH => ?_);dsimp only [u2,u1,u3,u4,setMany,u5,u6,D.cells,Nat.reduceAdd,rangeC] at hH;refine qm ?_;refine qe hK ?_;refine qj fun K hK => ?_;refine qA ?_;refine qm ?_;refine qe hK ?_;exact ⟨mm - 1,by omega,⟨i + 1,x60,rfl,(by rw [hj1]; simp only [joinR,if_neg h2]; rw [List.reverse_cons (a := q),List.map_append]; exact hH.drop 2),by omega⟩⟩
  ·refine EvC.exit ?_;refine qq ?_;refine qj fun K hK => ?_;refine qm ?_;refine qm ?_;refine qe hK ?_;rw [List.take_of_length_le (by omega)] at hH;refine EvC.ret ⟨rx,_,_,rfl,rl hSb hH ((hH.freeze at0 (range_plain _) (n := 15) (by decide))),?_⟩;exact ⟨all,by rw [rangesV_el],hperm,hpair⟩
def ixF_Jd (fr : Go.V.Fr) (k : Nat) : Go.V.D := Go.V.nth .junk fr.loc k
def runeC (r : Int) : List D := [.int .i32 r]
def runesV (l : List Int) : D := .sl ((l.map runeC).map (elD 1))
theorem rune_plain (l : List Int) : ∀ e ∈ l.map runeC, ∀ d ∈ e,plainC d = true := by
 intro e he d hd;obtain ⟨x,_,rfl⟩ := List.mem_map.1 he;simp only [runeC,List.mem_cons,List.not_mem_nil,or_false] at hd;subst hd; rfl
theorem rune_len (l : List Int) : ∀ e ∈ l.map runeC,e.length = 1 := by
 intro e he; obtain ⟨x,_,rfl⟩ := List.mem_map.1 he; rfl
theorem runesV_rows (st : St) (l : List Int) : V.Rows st 1 (runesV l) (l.map runeC) := Rows.ofFrozen (rune_len l) (rune_plain l)
theorem rune_get {l : List Int} {i : Nat} {q : Int} (h : l[i]? = some q) : (l.map runeC)[i]? = some (runeC q) := by rw [List.getElem?_map,h]; rfl
def marks0 (l : List Rg) : List Int := [0,55296,57344,1114112] ++ l.flatMap endsS
theorem ends_len (x : Rg) : (endsS x).length <= 2 := by
 unfold endsS; split <;> split <;> simp
theorem ends_flat (l : List Rg) : (l.flatMap endsS).length <= 2 * l.length := by
 induction l with
 | nil => simp
 | cons x l ih => simp only [List.flatMap_cons,List.length_append,List.length_cons]; have := ends_len x; omega
def sortedBut (m : List Int) (i k : Nat) : Prop := ∀ a b,a < b -> b <= i -> b ≠ k -> m.getD a 0 <= m.getD b 0
theorem getD_set (m : List Int) (k : Nat) (v : Int) (hk : k < m.length) (a : Nat) : (m.set k v).getD a 0 = if a = k then v else m.getD a 0 := by
 simp only [List.getD_eq_getElem?_getD]
 by_cases h : a = k
 ·subst h; rw [List.getElem?_set_self hk,if_pos rfl]; rfl
 ·rw [List.getElem?_set_ne (fun e => h e.symm),if_neg h]
theorem sorted_swap {m : List Int} {i k : Nat} (hk : k + 1 <= i) (hi : i < m.length) (h : sortedBut m i (k + 1)) (hgt : m.getD k 0 > m.getD (k + 1) 0) : sortedBut ((m.set k (m.getD (k + 1) 0)).set (k + 1) (m.getD k 0)) i k := by
 intro a b hab hbi hbk;have hl : (m.set k (m.getD (k + 1) 0)).length = m.length := List.length_set ..;rw [getD_set _ _ _ (by rw [hl]; omega),getD_set _ _ _ (by omega),getD_set _ _ _ (by rw [hl]; omega),getD_set _ _ _ (by omega)]
 by_cases h1 : b = k + 1
 ·rw [if_pos h1,if_neg (by omega)]
  by_cases h2 : a = k
  ·rw [if_pos h2]; omega
  ·rw [if_neg h2]; exact h a k (by omega) (by omega) (by omega)
 ·rw [if_neg h1,if_neg hbk]
  by_cases h2 : a = k + 1
  ·rw [if_pos h2]; exact h k b (by omega) hbi h1
  ·rw [if_neg h2]
   by_cases h3 : a = k
   ·rw [if_pos h3]; exact h (k + 1) b (by omega) hbi h1
   ·rw [if_neg h3]; exact h a b hab hbi h1
theorem sorted_done {m : List Int} {i k : Nat} (h : sortedBut m i k) (hx : k = 0 \/ m.getD (k - 1) 0 <= m.getD k 0) (j : Nat) : sortedBut m i j := by
 intro a b hab hbi _
 by_cases hb : b = k
 ·subst hb;have hx := hx.resolve_left (by omega)
  by_cases ha : a = b - 1
  ·rw [ha]; exact hx
  ·exact Int.le_trans (h a (b - 1) (by omega) (by omega) (by omega)) hx
 ·exact h a b hab hbi hb
theorem swap_perm {m : List Int} {k : Nat} (hk : k + 1 < m.length) : ((m.set k (m.getD (k + 1) 0)).set (k + 1) (m.getD k 0)).Perm m := by
 have h0 : m = m.take k ++ (m.getD k 0 :: m.getD (k + 1) 0 :: m.drop (k + 2)) := by
  have e1 : m.drop k = m.getD k 0 :: m.drop (k + 1) := by rw [List.drop_eq_getElem_cons (by omega)]; simp [List.getD_eq_getElem?_getD,List.getElem?_eq_getElem (show k < m.length by omega)]
  have e2 : m.drop (k + 1) = m.getD (k + 1) 0 :: m.drop (k + 2) := by rw [List.drop_eq_getElem_cons (by omega)]; simp [List.getD_eq_getElem?_getD,List.getElem?_eq_getElem hk]
  rw [<- e2, <- e1,List.take_append_drop]
 have hlen : (m.take k).length = k := by simp; omega
 generalize m.getD k 0 = x at *;generalize m.getD (k + 1) 0 = y at *;generalize m.take k = l1 at *;generalize m.drop (k + 2) = l2 at *;subst h0;rw [List.set_append_right _ _ (by omega),List.set_append_right _ _ (by omega),hlen,Nat.sub_self,Nat.add_sub_cancel_left];exact (List.Perm.swap x y l2).append_left l1
theorem sorted_pair {m : List Int} {i : Nat} (h : sortedBut m i (i + 1)) (hi : i + 1 >= m.length) : m.Pairwise (· <= ·) := by
 rw [List.pairwise_iff_getElem];intro a b ha hb hab;have := h a b hab (by omega) (by omega)
 simpa [List.getD_eq_getElem?_getD,List.getElem?_eq_getElem ha,List.getElem?_eq_getElem hb] using this
theorem marks_ev {s0 : St} {x : D} {l : List Rg} (hx : V.Rows s0 2 x (l.map rangeC)) (hl : l.length <= 268435456) : ∃ d,Ev pv 117 [x] s0 d s0 /\ ∃ m : List Int,d = runesV m /\ m.Perm (marks0 l) /\ m.Pairwise (· <= ·) := by
 refine Ev.mkR rfl fi117 rfl rfl rfl ?_;dsimp only [u3,u4,List.length,Nat.reduceSub,Nat.reduceAdd,w1,w2];obtain ⟨hSb,hF,hH⟩ := ri s0;generalize enterSt .ro s0 = S at *;have hx := Arg.of hx hSb;refine qq ?_;refine qj fun K hK => ?_;refine qm ?_;refine qe hK ?_;refine qq ?_;refine qj fun K hK => ?_;refine qh (s := 1) (vs := [_,_,_,_]) hH fun k7 st hk7 hH => ?_;refine qm ?_;refine qe hK ?_;refine qq ?_;refine qq ?_;refine qj fun K hK => ?_;refine qm ?_;refine qe hK ?_;have hfl := ends_flat l;have h0 : marks0 (l.take 0) = [0,55296,57344,1114112] := rfl
 have hml : ∀ i,(marks0 (l.take i)).length <= 4 + 2 * l.length := by
  intro i;have := ends_flat (l.take i);simp only [marks0,List.length_append,List.length_cons,List.length_nil,List.length_take] at *;omega
 refine EvC.block ?_;refine EvC.loop (fun mm fr st => ∃ (i : Nat) (y : D),fr.clean = ⟨7, [x,ixF_Jd fr 1,ixF_Jd fr 2,y, .int .i64 (i : Nat),ixF_Jd fr 5,ixF_Jd fr 6], []⟩ /\ Has s0.bs.length S st [.lst y 1 ((marks0 (l.take i)).map runeC)] /\ (i + mm = l.length)) (l.length) ?_ ?_
 ·exact ⟨0,_,rfl,hH,by omega⟩
 rintro mm fr st ⟨i,y,hfr,hH,hi⟩;rw [hfr];clear hfr;generalize ixF_Jd fr = ee;clear fr;refine qq ?_;refine qq ?_;refine qj fun K hK => ?_;refine qm ?_;refine qm ?_;refine qn ?_;simp only [List.length_map];refine qg ?_;refine qe hK ?_;refine EvC.cond (by rfl) (fun h1 => ?_) (fun h1 => ?_) <;> try simp only [decide_eq_true_eq,decide_eq_false_iff_not] at h1
 ·refine EvC.skip ?_
  obtain ⟨q,hq⟩ : ∃ q,l[i]? = some q := ⟨l[i]'(by omega),List.getElem?_eq_getElem _⟩
  have hr := range_get hq;have hm := hml i
  have hm1 : marks0 (l.take (i + 1)) = marks0 (l.take i) ++ endsS q := by
   rw [List.take_add_one,hq]; simp [marks0]
  refine qq ?_;refine EvC.block ?_;refine qq ?_;refine qq ?_;refine EvC.cutT 40 (.bool (decide (q.1 <= q.2) && decide (q.1 >= 0) && decide (q.1 <= 1114111))) [] ?_ (fun ff tmp htmp => ?_)
  ·refine qm ?_;refine qm ?_;refine qr fun p16 hp16 => ?_;refine qf (fo := 0) fun p17 hp17 => ?_;refine qR ?_;refine qm ?_;refine qm ?_;refine qr fun p21 hp21 => ?_;refine qf (fo := 1) fun p22 hp22 => ?_;refine qR ?_;refine qg ?_;refine qm ?_;refine EvO.two 25 rfl (fun hg11 => ?_) (fun hg11 => ?_)
   ·refine qm ?_ (hg := wi hg11);refine qm ?_ (hg := wi hg11);refine qr (fun p28 hp28 => ?_) (hg := wi hg11);refine qf (fo := 0) (fun p29 hp29 => ?_) (hg := wi hg11);refine qR ?_ (hg := wi hg11);refine qg ?_ (hg := wi hg11);refine qt hg11 ?_;refine qm ?_;refine EvO.two 33 rfl (fun hg19 => ?_) (fun hg19 => ?_)
    ·refine qm ?_ (hg := wi hg19);refine qm ?_ (hg := wi hg19);refine qr (fun p36 hp36 => ?_) (hg := wi hg19);refine qf (fo := 0) (fun p37 hp37 => ?_) (hg := wi hg19);refine qR ?_ (hg := wi hg19);refine qg ?_ (hg := wi hg19);refine qt hg19 ?_;refine EvO.nil (leafT ?_ ?_)
     ·dsimp only [setW,List.foldl,nth,u2,u1]
      all_goals (first | rfl | simp)
     ·dsimp only [Fr.putO,Fr.put,Fr.clean,Fr.ev,Fr.get,nth,V.look,u1,u2,v1,v2,v3,v4,v5,v6,v7,List.length,u3,u4,Nat.reduceSub,Nat.reduceAdd,List.map]
      all_goals (simp [hg11,hg19]; done)
    ·refine qs ?_ (hg := wn hg19);refine qs ?_ (hg := wn hg19);refine qs ?_ (hg := wn hg19);refine qs ?_ (hg := wn hg19);refine qs ?_ (hg := wn hg19);refine qs ?_ (hg := wn hg19);refine qu hg19 ?_;refine EvO.nil (leafT ?_ ?_)
     ·dsimp only [setW,List.foldl,nth,u2,u1]
      all_goals (first | rfl | simp)
     ·dsimp only [Fr.putO,Fr.put,Fr.clean,Fr.ev,Fr.get,nth,V.look,u1,u2,v1,v2,v3,v4,v5,v6,v7,List.length,u3,u4,Nat.reduceSub,Nat.reduceAdd,List.map]
      all_goals (simp [hg11,hg19]; done)
   ·refine qs ?_ (hg := wn hg11);refine qs ?_ (hg := wn hg11);refine qs ?_ (hg := wn hg11);refine qs ?_ (hg := wn hg11);refine qs ?_ (hg := wn hg11);refine qs ?_ (hg := wn hg11);refine qu hg11 ?_;refine qm ?_;refine qs ?_;refine qs ?_;refine qs ?_;refine qs ?_;refine qs ?_;refine qs ?_;refine qg ?_;refine EvO.nil (leafT ?_ ?_)
    ·dsimp only [setW,List.foldl,nth,u2,u1]
     all_goals (first | rfl | simp)
    ·dsimp only [Fr.putO,Fr.put,Fr.clean,Fr.ev,Fr.get,nth,V.look,u1,u2,v1,v2,v3,v4,v5,v6,v7,List.length,u3,u4,Nat.reduceSub,Nat.reduceAdd,List.map]
     all_goals (simp [hg11]; done)
  dsimp only [setW,List.foldl,nth,u2,u1];dsimp only [Fr.putO,Fr.put,Fr.clean,Fr.ev,Fr.get,nth,V.look,u1,u2,v1,v2,v3,v4,v5,v6,v7,List.length,u3,u4,Nat.reduceSub,Nat.reduceAdd,List.map];have hsp : endsS q = (if q.1 <= q.2 /\ 0 <= q.1 /\ q.1 <= 1114111 then [q.1] else []) ++ (if q.1 <= q.2 /\ 0 <= q.2 /\ q.2 < 1114111 then [q.2 + 1] else []) := rfl;rw [hsp] at hm1;generalize he1 : (if q.1 <= q.2 /\ 0 <= q.1 /\ q.1 <= 1114111 then [q.1] else []) = e1 at hm1;generalize he2 : (if q.1 <= q.2 /\ 0 <= q.2 /\ q.2 < 1114111 then [q.2 + 1] else []) = e2 at hm1;have hel1 : e1.length <= 1 := by rw [<- he1]; split <;> simp
  refine EvC.merge (fun fr st => ∃ (y : D) (tmp : List (Nat × D)),fr = ⟨7, [x,ixF_Jd fr 1,ixF_Jd fr 2,y, .int .i64 (i : Nat),ixF_Jd fr 5,ixF_Jd fr 6],tmp⟩ /\ Has s0.bs.length S st [.lst y 1 ((marks0 (l.take i) ++ e1).map runeC)]) ?_ ?_
  ·refine qc (fun h2 => ?_) (fun h2 => ?_) <;> try simp only [cs] at h2
   ·simp only [Bool.and_eq_true,decide_eq_true_eq] at h2;rw [if_pos ⟨h2.1.1,h2.1.2,h2.2⟩] at he1;refine qj fun K hK => ?_;refine qm ?_;refine qm ?_;refine qm ?_;refine qr fun p44 hp44 => ?_;refine qf (fo := 0) fun p45 hp45 => ?_;refine qR ?_;refine qh (s := 1) (vs := [_]) hH fun k47 st hk47 hH => ?_;refine EvO.happend (s := 1) hH rfl (ev rfl) (ev rfl) (by exact at1) (by exact hH.rows (by exact at0)) rfl rfl rfl rfl rfl rfl rfl ⟨(Nat.le_of_ble_eq_true rfl),(Nat.le_of_ble_eq_true rfl)⟩ (fun _ => (put_T rfl _)) (by simp only [List.length_cons,List.length_nil,List.length_map] <;> omega) (by exact .inl hF) (fun x48 st hH => ?_);dsimp only [u2,u1,u3,u4,setMany,u5,u6,D.cells,Nat.reduceAdd,rangeC,runeC] at hH;refine qm ?_;refine qe hK ?_;exact ⟨x48,_,rfl,(by rw [<- he1,List.map_append]; exact hH.drop 1)⟩
   ·rw [if_neg (by rintro ⟨a,b,c⟩; simp [a,b,c] at h2)] at he1;refine EvC.skip ?_;exact ⟨y,_,rfl,(by rw [<- he1,List.append_nil]; exact hH)⟩
  ·rintro fr st ⟨y,tmp,hfr,hH⟩;rw [hfr];clear hfr;generalize ixF_Jd fr = ee;clear fr;refine qq ?_;refine EvC.cutT 75 (.bool (decide (q.1 <= q.2) && decide (q.2 >= 0) && decide (q.2 < 1114111))) [] ?_ (fun ff tmp htmp => ?_)
   ·refine qm ?_;refine qm ?_;refine qr fun p51 hp51 => ?_;refine qf (fo := 0) fun p52 hp52 => ?_;refine qR ?_;refine qm ?_;refine qm ?_;refine qr fun p56 hp56 => ?_;refine qf (fo := 1) fun p57 hp57 => ?_;refine qR ?_;refine qg ?_;refine qm ?_;refine EvO.two 60 rfl (fun hg11 => ?_) (fun hg11 => ?_)
    ·refine qm ?_ (hg := wi hg11);refine qm ?_ (hg := wi hg11);refine qr (fun p63 hp63 => ?_) (hg := wi hg11);refine qf (fo := 1) (fun p64 hp64 => ?_) (hg := wi hg11);refine qR ?_ (hg := wi hg11);refine qg ?_ (hg := wi hg11);refine qt hg11 ?_;refine qm ?_;refine EvO.two 68 rfl (fun hg19 => ?_) (fun hg19 => ?_)
     ·refine qm ?_ (hg := wi hg19);refine qm ?_ (hg := wi hg19);refine qr (fun p71 hp71 => ?_) (hg := wi hg19);refine qf (fo := 1) (fun p72 hp72 => ?_) (hg := wi hg19);refine qR ?_ (hg := wi hg19);refine qg ?_ (hg := wi hg19);refine qt hg19 ?_;refine EvO.nil (leafT ?_ ?_)
      ·dsimp only [setW,List.foldl,nth,u2,u1]
       all_goals (first | rfl | simp)
      ·dsimp only [Fr.putO,Fr.put,Fr.clean,Fr.ev,Fr.get,nth,V.look,u1,u2,v1,v2,v3,v4,v5,v6,v7,List.length,u3,u4,Nat.reduceSub,Nat.reduceAdd,List.map]
       all_goals (simp [hg11,hg19]; done)
     ·refine qs ?_ (hg := wn hg19);refine qs ?_ (hg := wn hg19);refine qs ?_ (hg := wn hg19);refine qs ?_ (hg := wn hg19);refine qs ?_ (hg := wn hg19);refine qs ?_ (hg := wn hg19);refine qu hg19 ?_;refine EvO.nil (leafT ?_ ?_)
      ·dsimp only [setW,List.foldl,nth,u2,u1]
       all_goals (first | rfl | simp)
      ·dsimp only [Fr.putO,Fr.put,Fr.clean,Fr.ev,Fr.get,nth,V.look,u1,u2,v1,v2,v3,v4,v5,v6,v7,List.length,u3,u4,Nat.reduceSub,Nat.reduceAdd,List.map]
       all_goals (simp [hg11,hg19]; done)
    ·refine qs ?_ (hg := wn hg11);refine qs ?_ (hg := wn hg11);refine qs ?_ (hg := wn hg11);refine qs ?_ (hg := wn hg11);refine qs ?_ (hg := wn hg11);refine qs ?_ (hg := wn hg11);refine qu hg11 ?_;refine qm ?_;refine qs ?_;refine qs ?_;refine qs ?_;refine qs ?_;refine qs ?_;refine qs ?_;refine qg ?_;refine EvO.nil (leafT ?_ ?_)
     ·dsimp only [setW,List.foldl,nth,u2,u1]
      all_goals (first | rfl | simp)
     ·dsimp only [Fr.putO,Fr.put,Fr.clean,Fr.ev,Fr.get,nth,V.look,u1,u2,v1,v2,v3,v4,v5,v6,v7,List.length,u3,u4,Nat.reduceSub,Nat.reduceAdd,List.map]
      all_goals (simp [hg11]; done)
   dsimp only [setW,List.foldl,nth,u2,u1];refine EvC.merge (fun fr st => ∃ (y : D) (tmp : List (Nat × D)),fr = ⟨7, [x,ixF_Jd fr 1,ixF_Jd fr 2,y, .int .i64 (i : Nat),ixF_Jd fr 5,ixF_Jd fr 6],tmp⟩ /\ Has s0.bs.length S st [.lst y 1 ((marks0 (l.take (i + 1))).map runeC)]) ?_ ?_
   ·refine qc (fun h2 => ?_) (fun h2 => ?_) <;> try simp only [cs] at h2
    ·simp only [Bool.and_eq_true,decide_eq_true_eq] at h2;rw [if_pos ⟨h2.1.1,h2.1.2,h2.2⟩] at he2;refine qj fun K hK => ?_;refine qm ?_;refine qm ?_;refine qm ?_;refine qr fun p79 hp79 => ?_;refine qf (fo := 1) fun p80 hp80 => ?_;refine qR ?_;refine EvO.addS32 rfl (ev rfl) (ev rfl) (by omega) (by omega) (put_T rfl _) ?_;refine qh (s := 1) (vs := [_]) hH fun k83 st hk83 hH => ?_;refine EvO.happend (s := 1) hH rfl (ev rfl) (ev rfl) (by exact at1) (by exact hH.rows (by exact at0)) rfl rfl rfl rfl rfl rfl rfl ⟨(Nat.le_of_ble_eq_true rfl),(Nat.le_of_ble_eq_true rfl)⟩ (fun _ => (put_T rfl _)) (by simp only [List.length_append,List.length_cons,List.length_nil,List.length_map] <;> omega) (by exact .inl hF) (fun x84 st hH => ?_);dsimp only [u2,u1,u3,u4,setMany,u5,u6,D.cells,Nat.reduceAdd,rangeC,runeC] at hH;refine qm ?_;refine qe hK ?_;exact ⟨x84,_,rfl,(by rw [hm1, <- he2, <- List.append_assoc,List.map_append]; exact hH.drop 1)⟩
    ·rw [if_neg (by rintro ⟨a,b,c⟩; simp [a,b,c] at h2)] at he2;refine EvC.skip ?_;exact ⟨y,_,rfl,(by rw [hm1, <- he2,List.append_nil]; exact hH)⟩
   ·rintro fr st ⟨y,tmp,hfr,hH⟩;rw [hfr];clear hfr;generalize ixF_Jd fr = ee;clear fr;refine qj fun K hK => ?_;refine qm ?_;refine qA ?_;refine qm ?_;refine qe hK ?_;exact ⟨mm - 1,by omega,⟨i + 1,y,rfl,hH,by omega⟩⟩
 ·refine EvC.exit ?_;have hT : l.take i = l := List.take_of_length_le (by omega);rw [hT] at hH;have hm := hml l.length;rw [List.take_length] at hm;generalize hm0 : marks0 l = m0 at *;have hpos : 4 <= m0.length := by rw [<- hm0]; simp [marks0]
  refine qq ?_;refine qq ?_;refine qj fun K hK => ?_;refine qm ?_;refine qe hK ?_;refine EvC.block ?_;refine EvC.loop (fun mm fr st => ∃ (i : Nat) (m : List Int),fr.clean = ⟨7, [x,ixF_Jd fr 1,ixF_Jd fr 2,y,ixF_Jd fr 4, .int .i64 (i : Nat),ixF_Jd fr 6], []⟩ /\ Has s0.bs.length S st [.lst y 1 (m.map runeC)] /\ (i + mm = m0.length) /\ (m.Perm m0) /\ (sortedBut m (i - 1) i) /\ (1 <= i)) (m0.length - 1) ?_ ?_
  ·exact ⟨1,m0,rfl,hH,by omega, .refl _,by intro a b h1 h2 h3; omega,by omega⟩
  rintro mm fr st ⟨i,m,hfr,hH,hi,hp,hs,hpos⟩;rw [hfr];clear hfr;generalize ixF_Jd fr = ee;clear fr;have hml2 : m.length = m0.length := hp.length_eq;refine qq ?_;refine qq ?_;refine qj fun K hK => ?_;refine qm ?_;refine qm ?_;refine qn ?_ (hR := hH.rows at0);simp only [List.length_map];refine qg ?_;refine qe hK ?_;refine EvC.cond (by rfl) (fun h1 => ?_) (fun h1 => ?_) <;> try simp only [decide_eq_true_eq,decide_eq_false_iff_not] at h1
  ·refine EvC.skip ?_;refine qq ?_;refine EvC.block ?_;refine qq ?_;refine qj fun K hK => ?_;refine qm ?_;refine qm ?_;refine qe hK ?_;refine EvC.block ?_;refine EvC.loop (fun mm fr st => ∃ (k : Nat) (m : List Int),fr.clean = ⟨7, [x,ixF_Jd fr 1,ixF_Jd fr 2,y,ixF_Jd fr 4, .int .i64 (i : Nat), .int .i64 (k : Nat)], []⟩ /\ Has s0.bs.length S st [.lst y 1 (m.map runeC)] /\ (k = mm) /\ (m.Perm m0) /\ (sortedBut m i k) /\ (k <= i)) (i) ?_ ?_
   ·exact ⟨i,m,rfl,hH,rfl,hp,by intro a b h1 h2 h3; exact hs a b h1 (by omega) (by omega),by omega⟩
   have hi' := hi;rintro mm fr st ⟨k,m,hfr,hH,hk,hp,hs,hki⟩;rw [hfr];clear hfr;generalize ixF_Jd fr = ee;clear fr;have hml2 : m.length = m0.length := hp.length_eq
   rcases k with _ | k
   ·have hg2 : decide (((0 : Nat) : Int) > 0) = false := by decide
    refine qq ?_;refine qq ?_;refine EvC.cutT 105 (.bool false) [] ?_ (fun ff tmp htmp => ?_)
    ·refine qm ?_;refine qg ?_;refine qm ?_;refine qs ?_ (hg := wn hg2);refine qs ?_ (hg := wn hg2);refine qs ?_ (hg := wn hg2);refine qs ?_ (hg := wn hg2);refine qs ?_ (hg := wn hg2);refine qs ?_ (hg := wn hg2);refine qs ?_ (hg := wn hg2);refine qs ?_ (hg := wn hg2);refine qs ?_ (hg := wn hg2);refine qs ?_ (hg := wn hg2);refine qu hg2 ?_;refine EvO.nil (leafT ?_ ?_)
     ·dsimp only [setW,List.foldl,nth,u2,u1]
      all_goals (first | rfl | simp)
     ·dsimp only [Fr.putO,Fr.put,Fr.clean,Fr.ev,Fr.get,nth,V.look,u1,u2,v1,v2,v3,v4,v5,v6,v7,List.length,u3,u4,Nat.reduceSub,Nat.reduceAdd,List.map]
      all_goals (first | rfl | (simp [hg2]; done) | (simp_all; done) | (simp [hg2]; omega) | (simp_all; omega))
    dsimp only [setW,List.foldl,nth,u2,u1];dsimp only [Fr.putO,Fr.put,Fr.clean,Fr.ev,Fr.get,nth,V.look,u1,u2,v1,v2,v3,v4,v5,v6,v7,List.length,u3,u4,Nat.reduceSub,Nat.reduceAdd,List.map];refine qC ?_;refine EvC.exit ?_;refine qj fun K hK => ?_;refine qm ?_;refine qA ?_;refine qm ?_;refine qe hK ?_;exact ⟨m0.length - (i + 1),by omega,⟨i + 1,m,rfl,hH,by omega,hp,sorted_done hs (.inl rfl) _,by omega⟩⟩
   ·have hg2 : decide (((k + 1 : Nat) : Int) > 0) = true := by rw [decide_eq_true]; omega
    have hr1 : (m.map runeC)[k]? = some (runeC (m.getD k 0)) := by
     rw [List.getElem?_map,List.getElem?_eq_getElem (by omega)]; simp [List.getD_eq_getElem?_getD,List.getElem?_eq_getElem (show k < m.length by omega)]
    have hr2 : (m.map runeC)[k + 1]? = some (runeC (m.getD (k + 1) 0)) := by
     rw [List.getElem?_map,List.getElem?_eq_getElem (by omega)]; simp [List.getD_eq_getElem?_getD,List.getElem?_eq_getElem (show k + 1 < m.length by omega)]
    refine qq ?_;refine qq ?_;refine EvC.cutT 105 (.bool (decide (m.getD k 0 > m.getD (k + 1) 0))) [] ?_ (fun ff tmp htmp => ?_)
    ·refine qm ?_;refine qg ?_;refine qm ?_;refine qm ?_ (hg := wi hg2);refine qm ?_ (hg := wi hg2);refine EvO.subZ (z := ((k : Nat) : Int)) (wantD_is rfl rfl rfl hg2) (ev rfl) (ev rfl) (by (try simp only [List.length_reverse,List.length_cons,List.length_nil,List.length_append,List.length_map,List.length_set]); rw [wrap_i64 (by omega) (by omega)] <;> omega) (put_T rfl _) ?_;refine qi hH at0 (fun p98 hp98 => ?_) (hg := wi hg2);refine qo hH at0 ?_ (hg := wi hg2);refine qm ?_ (hg := wi hg2);refine qm ?_ (hg := wi hg2);refine qi hH at0 (fun p102 hp102 => ?_) (hg := wi hg2);refine qo hH at0 ?_ (hg := wi hg2);refine qg ?_ (hg := wi hg2);refine qt hg2 ?_;refine EvO.nil (leafT ?_ ?_)
     ·dsimp only [setW,List.foldl,nth,u2,u1]
      all_goals (first | rfl | simp)
     ·dsimp only [Fr.putO,Fr.put,Fr.clean,Fr.ev,Fr.get,nth,V.look,u1,u2,v1,v2,v3,v4,v5,v6,v7,List.length,u3,u4,Nat.reduceSub,Nat.reduceAdd,List.map]
      all_goals (first | rfl | (simp [hg2]; done) | (simp_all; done) | (simp [hg2]; omega) | (simp_all; omega))
    dsimp only [setW,List.foldl,nth,u2,u1];dsimp only [Fr.putO,Fr.put,Fr.clean,Fr.ev,Fr.get,nth,V.look,u1,u2,v1,v2,v3,v4,v5,v6,v7,List.length,u3,u4,Nat.reduceSub,Nat.reduceAdd,List.map];have hsw := swap_perm (m := m) (k := k) (by omega);have hss := fun h => sorted_swap (m := m) (i := i) (k := k) (by omega) (by omega) hs h;have hsd := fun (h : m.getD k 0 <= m.getD (k + 1) 0) => sorted_done (j := i + 1) hs (.inr (by rw [Nat.add_sub_cancel]; exact h));have hmap : ((m.set k (m.getD (k + 1) 0)).set (k + 1) (m.getD k 0)).map runeC = ((m.map runeC).set k (runeC (m.getD (k + 1) 0))).set (k + 1) (runeC (m.getD k 0)) := by rw [List.map_set,List.map_set]
    have hr3 : ((m.map runeC).set k (runeC (m.getD (k + 1) 0)))[k + 1]? = some (runeC (m.getD (k + 1) 0)) := by rw [List.getElem?_set_ne (by omega)]; exact hr2
    generalize m.getD k 0 = a at *;generalize m.getD (k + 1) 0 = b at *;refine EvC.cond (by assumption) (fun h2 => ?_) (fun h2 => ?_) <;> try simp only [decide_eq_true_eq,decide_eq_false_iff_not] at h2
    ·refine EvC.skip ?_;refine qq ?_;refine EvC.block ?_;refine qj fun K hK => ?_;refine qm ?_;refine qm ?_;refine EvO.subZ (z := ((k : Nat) : Int)) rfl (ev rfl) (ev rfl) (by (try simp only [List.length_reverse,List.length_cons,List.length_nil,List.length_append,List.length_map,List.length_set]); rw [wrap_i64 (by omega) (by omega)] <;> omega) (put_T rfl _) ?_;refine qm ?_;refine qm ?_;refine qm ?_;refine qm ?_;refine qi hH at0 fun p115 hp115 => ?_;refine qo hH at0 ?_;refine qm ?_;refine qm ?_;refine EvO.subZ (z := ((k : Nat) : Int)) rfl (ev rfl) (ev rfl) (by (try simp only [List.length_reverse,List.length_cons,List.length_nil,List.length_append,List.length_map,List.length_set]); rw [wrap_i64 (by omega) (by omega)] <;> omega) (put_T rfl _) ?_;refine qi hH at0 fun p120 hp120 => ?_;refine qo hH at0 ?_;refine qi hH at0 fun p122 hp122 => ?_;refine EvO.ostore hH rfl (ev rfl) (ev rfl) (by assumption) rfl rfl (by exact at0) (by assumption) (Nat.le_of_ble_eq_true rfl) (by exact .inl hF) (fun st hH => ?_);dsimp only [u2,u1,u3,u4,setMany,u5,u6,D.cells,Nat.reduceAdd,rangeC,runeC] at hH;refine qi hH at0 fun p123 hp123 => ?_;refine EvO.ostore hH rfl (ev rfl) (ev rfl) (by assumption) rfl rfl (by exact at0) (by assumption) (Nat.le_of_ble_eq_true rfl) (by exact .inl hF) (fun st hH => ?_);dsimp only [u2,u1,u3,u4,setMany,u5,u6,D.cells,Nat.reduceAdd,rangeC,runeC] at hH;refine qe hK ?_;refine qj fun K hK => ?_;refine qm ?_;refine EvO.subZ (z := ((k : Nat) : Int)) rfl (ev rfl) (ev rfl) (by (try simp only [List.length_reverse,List.length_cons,List.length_nil,List.length_append,List.length_map,List.length_set]); rw [wrap_i64 (by omega) (by omega)] <;> omega) (put_T rfl _) ?_;refine qm ?_;refine qe hK ?_;exact ⟨k,by omega,⟨k,(m.set k b).set (k + 1) a,rfl,(by rw [hmap]; exact hH),rfl,hsw.trans hp,hss h2,by omega⟩⟩
    ·refine EvC.exit ?_;refine qj fun K hK => ?_;refine qm ?_;refine qA ?_;refine qm ?_;refine qe hK ?_;exact ⟨m0.length - (i + 1),by omega,⟨i + 1,m,rfl,hH,by omega,hp,hsd (by omega),by omega⟩⟩
  ·refine EvC.exit ?_;refine qq ?_;refine qj fun K hK => ?_;refine qm ?_;refine qm ?_;refine qe hK ?_;refine EvC.ret ⟨rx,_,_,rfl,rl hSb hH ((hH.freeze at0 (rune_plain _) (n := 15) (by decide))),?_⟩;exact ⟨m,rfl,hm0 ▸ hp,sorted_pair (i := i - 1) (by intro a b h1 h2 h3; exact hs a b h1 h2 (by omega)) (by omega)⟩
def ixF_Je (fr : Go.V.Fr) (k : Nat) : Go.V.D := Go.V.nth .junk fr.loc k
def MakeIs (l a : List Rg) : Prop := canon a /\ ∀ r,memR a r ↔ isRune r /\ memR l r
theorem MakeIs.unique {l a b : List Rg} (h : MakeIs l a) (g : MakeIs l b) : a = b := canon_unique h.1 g.1 fun r => (h.2 r).trans (g.2 r).symm
noncomputable def rightS (l : List Rg) : Bool := @decide (MakeIs l l) (Classical.propDecidable _)
theorem rightS_of {l a : List Rg} (h : MakeIs l a) : rightS l = decide (l = a) := by
 unfold rightS
 by_cases hl : l = a
 ·rw [decide_eq_true hl]; exact @decide_eq_true _ (Classical.propDecidable _) (by rw [hl] at h ⊢; exact h)
 ·rw [decide_eq_false hl]; exact @decide_eq_false _ (Classical.propDecidable _) (fun g => hl (g.unique h))
theorem neq_range (p q : Rg) : binD pv .neq 42 (.agg (rangeC p)) (.agg (rangeC q)) = some (.bool (!decide (p = q))) := by
 have h : ∀ a b a' b' : Int,binD pv .neq 42 (.agg [.int .i32 a, .int .i32 b]) (.agg [.int .i32 a', .int .i32 b']) = Option.map (fun b => D.bool !b) (match some (a == a') with | some true => (match some (b == b') with | some true => some true | some false => some false | none => none) | some false => some false | none => none) := fun _ _ _ _ => rfl;obtain ⟨a,b⟩ := p;obtain ⟨a',b'⟩ := q;simp only [rangeC,h]
 by_cases h1 : a = a'
 ·subst h1
  by_cases h2 : b = b'
  ·subst h2; simp
  ·have : (b == b') = false := by simpa using h2
   simp [this,h2]
 ·have : (a == a') = false := by simpa using h1
  simp [this,h1]
theorem take_eq_step {α : Type} {a b : List α} {i : Nat} {x y : α} (ha : a[i]? = some x) (hb : b[i]? = some y) (h : a.take i = b.take i) (hxy : x = y) : a.take (i + 1) = b.take (i + 1) := by
 rw [List.take_add_one,List.take_add_one,h,ha,hb,hxy]
theorem ne_of_get {α : Type} {a b : List α} {i : Nat} {x y : α} (ha : a[i]? = some x) (hb : b[i]? = some y) (hxy : ¬ x = y) : ¬ a = b := by
 intro h; subst h; rw [ha] at hb; exact hxy (Option.some.inj hb)
theorem equal_ev {s0 : St} {x y : D} {l m : List Rg} (hx : V.Rows s0 2 x (l.map rangeC)) (hy : V.Rows s0 2 y (m.map rangeC)) (hl : l.length <= 1073741824) (hm : m.length <= 1073741824) : Ev pv 102 [x,y] s0 (.bool (decide (l = m))) s0 := by
 refine Ev.mk1 rfl fi102 rfl rfl rfl ?_;dsimp only [u3,u4,List.length,Nat.reduceSub,Nat.reduceAdd,w1,w2];obtain ⟨hSb,hF,hH⟩ := ri s0;generalize enterSt .ro s0 = S at *;have hx := Arg.of hx hSb;have hy := Arg.of hy hSb;refine qq ?_;refine qj fun K hK => ?_;refine qm ?_;refine qe hK ?_;refine qq ?_;refine qq ?_;refine qj fun K hK => ?_;refine qm ?_;refine qn ?_;simp only [List.length_map];refine qm ?_;refine qn ?_;simp only [List.length_map];refine qg ?_;refine qe hK ?_
 by_cases hlen : l.length = m.length
 ·refine EvC.cond (v := false) ?_ (fun h => by cases h) (fun _ => ?_)
  ·dsimp only [Fr.ev,Fr.get,nth,V.look]; rw [hlen]; simp
  refine EvC.skip ?_;refine qq ?_;refine qq ?_;refine qj fun K hK => ?_;refine qm ?_;refine qn ?_;simp only [List.length_map];refine qm ?_;refine qe hK ?_;refine EvC.block ?_;refine EvC.loop (fun mm fr st => ∃ (i : Nat),fr.clean = ⟨14, [x,y,ixF_Je fr 2,ixF_Je fr 3, .bool false,ixF_Je fr 5,ixF_Je fr 6,ixF_Je fr 7,ixF_Je fr 8,ixF_Je fr 9,ixF_Je fr 10,ixF_Je fr 11, .int .i64 (l.length : Nat), .int .i64 (i : Nat)], []⟩ /\ Has s0.bs.length S st [] /\ (i + mm = l.length) /\ (l.take i = m.take i)) (l.length) ?_ ?_
  ·exact ⟨0,rfl,hH,by omega,rfl⟩
  rintro mm fr st ⟨i,hfr,hH,hi,ht⟩;rw [hfr];clear hfr;generalize ixF_Je fr = ee;clear fr;refine qq ?_;refine qj fun K hK => ?_;refine qg ?_;refine qe hK ?_;refine qq ?_;refine EvC.cond (by rfl) (fun h1 => ?_) (fun h1 => ?_) <;> try simp only [decide_eq_true_eq,decide_eq_false_iff_not] at h1
  ·refine EvC.skip ?_
   obtain ⟨p,hp⟩ : ∃ p,l[i]? = some p := ⟨l[i]'(by omega),List.getElem?_eq_getElem _⟩
   obtain ⟨q,hq⟩ : ∃ q,m[i]? = some q := ⟨m[i]'(by omega),List.getElem?_eq_getElem _⟩
   have hr1 := range_get hp;have hr2 := range_get hq;refine qq ?_;refine EvC.block ?_;refine qq ?_;refine qj fun K hK => ?_;refine qm ?_;refine qm ?_;refine qe hK ?_;refine qq ?_;refine qj fun K hK => ?_;refine qm ?_;refine qm ?_;refine qr fun p18 hp18 => ?_;refine EvO.rloadS rfl (ev rfl) (by assumption) rfl (put_T rfl _) ?_;refine qm ?_;refine qm ?_;refine qr fun p22 hp22 => ?_;refine EvO.rloadS rfl (ev rfl) (by assumption) rfl (put_T rfl _) ?_;refine EvO.neB rfl (ev rfl) (ev rfl) (neq_range p q) (put_T rfl _) ?_;refine qe hK ?_;refine EvC.cond (by rfl) (fun h2 => ?_) (fun h2 => ?_) <;> try simp only [decide_eq_true_eq,decide_eq_false_iff_not,Bool.not_eq_true',Bool.not_eq_false'] at h2
   ·refine qq ?_;refine qj fun K hK => ?_;refine qm ?_;refine qe hK ?_;rw [decide_eq_false (ne_of_get hp hq (by simpa using h2))];refine EvC.ret ⟨rx,_,rfl,rl hSb hH (rfl)⟩
   ·refine EvC.skip ?_;refine qj fun K hK => ?_;refine qA ?_;refine qm ?_;refine qe hK ?_;exact ⟨mm - 1,by omega,⟨i + 1,rfl,hH,by omega,take_eq_step hp hq ht (by simpa using h2)⟩⟩
  ·refine EvC.exit ?_;refine qq ?_;refine qj fun K hK => ?_;refine qm ?_;refine qe hK ?_;rw [decide_eq_true (by rw [List.take_of_length_le (by omega),List.take_of_length_le (by omega)] at ht; exact ht)];refine EvC.ret ⟨rx,_,rfl,rl hSb hH (rfl)⟩
 ·refine EvC.cond (v := true) ?_ (fun _ => ?_) (fun h => by cases h)
  ·dsimp only [Fr.ev,Fr.get,nth,V.look]; simp; omega
  refine qq ?_;refine qj fun K hK => ?_;refine qm ?_;refine qe hK ?_;rw [decide_eq_false (fun h => hlen (by rw [h]))];refine EvC.ret ⟨rx,_,rfl,rl hSb hH (rfl)⟩
theorem right_ev {s0 : St} {x : D} {l : List Rg} (hx : V.Rows s0 2 x (l.map rangeC)) (hl : l.length <= 1048576) : Ev pv 77 [x] s0 (.bool (rightS l)) s0 := by
 refine Ev.mk1 rfl fi77 rfl rfl rfl ?_;dsimp only [u3,u4,List.length,Nat.reduceSub,Nat.reduceAdd,w1,w2];obtain ⟨hSb,hF,hH⟩ := ri s0;generalize enterSt .ro s0 = S at *;have hx := Arg.of hx hSb;refine qq ?_;refine qj fun K hK => ?_;refine qm ?_;refine qe hK ?_;obtain ⟨_,hev,all,rfl,hperm,hpair⟩ := make_ev (hx.rows hH) (by omega);have hM : MakeIs l (all.foldl joinR []).reverse := make_canon (fun x => hperm.mem_iff) hpair;have hlen := hperm.length_eq;have hfl := flatMap_len l;have hjl := join_pos all;rw [rightS_of hM];refine qq ?_;refine qj fun K hK => ?_;refine qm ?_;refine qm ?_;refine qv (hev) ?_;refine qv (equal_ev (hx.rows hH) (rangesV_rows _ _) (by omega) (by rw [List.length_reverse]; omega)) ?_;refine qm ?_;refine qe hK ?_;refine EvC.ret ⟨rx,_,rfl,rl hSb hH (rfl)⟩
theorem piece_ev {N : Nat} {S st : St} {H : List Ent} {x : D} {acc : List Rg} {lo hi : Int} (hF : S.flr <= N) (hH : Has N S st (.lst x 2 (acc.reverse.map rangeC) :: H)) (hl : acc.length <= 536870912) (hb : ∀ k ∈ acc,0 <= k.2 + 1 /\ k.2 + 1 <= 2147483647) :
  ∃ x' st',Ev pv 119 [x, .int .i32 lo, .int .i32 hi] st x' st' /\ Has N S st' (.lst x' 2 ((pieceS acc lo hi).reverse.map rangeC) :: H) := by
 refine Ev.mkE rfl fi119 rfl rfl rfl ?_;dsimp only [u3,u4,List.length,Nat.reduceSub,Nat.reduceAdd,w1,w2];change EvC _ _ _ _ st _;refine qq ?_;refine qj fun K hK => ?_;refine qm ?_;refine qe hK ?_
 rcases acc with _ | ⟨h,t⟩
 ·have hg3 : decide (((([] : List Rg).reverse.map rangeC).length : Int) > 0) = false := by decide
  refine qq ?_;refine qq ?_;refine EvC.cutT 21 (.bool false) [] ?_ (fun ff tmp htmp => ?_)
  ·refine qm ?_;refine qn ?_ (hR := hH.rows at0);simp only [List.length_map,List.length_nil,List.length_reverse];refine qg ?_;refine qm ?_;refine qs ?_ (hg := wn hg3);refine qs ?_ (hg := wn hg3);refine qs ?_ (hg := wn hg3);refine qs ?_ (hg := wn hg3);refine qs ?_ (hg := wn hg3);refine qs ?_ (hg := wn hg3);refine qs ?_ (hg := wn hg3);refine qs ?_ (hg := wn hg3);refine qs ?_ (hg := wn hg3);refine qs ?_ (hg := wn hg3);refine qu hg3 ?_;refine EvO.nil (leafT ?_ ?_)
   ·dsimp only [setW,List.foldl,nth,u2,u1]
    all_goals (first | rfl | simp)
   ·dsimp only [Fr.putO,Fr.put,Fr.clean,Fr.ev,Fr.get,nth,look,u1,u2,v1,v2,v4]
    all_goals (first | rfl | (simp [hg3]; done) | (simp_all; done) | (simp [hg3]; omega) | (simp_all; omega))
  dsimp only [setW,List.foldl,nth,u2,u1];refine qC ?_;refine EvC.skip ?_;refine qq ?_;refine qj fun K hK => ?_;refine qm ?_;refine qm ?_;refine qm ?_;refine qg ?_;refine qh (s := 2) (vs := [_]) hH fun k34 st hk34 hH => ?_;dsimp only [u2,u1,u3,u4,setMany,u5,u6,D.cells,Nat.reduceAdd,rangeC] at hH;refine EvO.happend (s := 2) hH rfl (ev rfl) (ev rfl) (by exact at1) (by exact hH.rows (by exact at0)) rfl rfl rfl rfl rfl rfl rfl ⟨(Nat.le_of_ble_eq_true rfl),(Nat.le_of_ble_eq_true rfl)⟩ (fun _ => (put_T rfl _)) (by simp only [List.length_cons,List.length_nil,List.length_map,List.length_reverse] <;> omega) (by exact .inl hF) (fun x35 st hH => ?_);dsimp only [u2,u1,u3,u4,setMany,u5,u6,D.cells,Nat.reduceAdd,rangeC] at hH;refine qm ?_;refine qe hK ?_;refine EvC.ret ⟨rx,_,_,_,rfl,rfl,?_⟩;exact hH.drop 1
 ·have hlast := last_get h t;have hset := last_set h (h.1,hi) t;have hbh := hb h (List.mem_cons_self ..);simp only [List.length_cons] at hl;have hg3 : decide (((t.length + 1 : Nat) : Int) > 0) = true := by rw [decide_eq_true]; omega
  refine qq ?_;refine qq ?_;refine EvC.cutT 21 (.bool (decide (h.2 + 1 = lo))) [] ?_ (fun ff tmp htmp => ?_)
  ·refine qm ?_;refine qn ?_ (hR := hH.rows at0);simp only [List.length_map,List.length_cons,List.length_reverse];refine qg ?_;refine qm ?_;refine qm ?_ (hg := wi hg3);refine qm ?_ (hg := wi hg3);refine qn ?_ (hR := hH.rows at0) (hg := wi hg3);simp only [List.length_map,List.length_cons,List.length_reverse];refine EvO.subZ (z := ((t.length : Nat) : Int)) (wantD_is rfl rfl rfl hg3) (ev rfl) (ev rfl) (by (try simp only [List.length_reverse,List.length_cons,List.length_nil,List.length_append,List.length_map,List.length_set]); rw [wrap_i64 (by omega) (by omega)] <;> omega) (put_T rfl _) ?_;refine qi hH at0 (fun p15 hp15 => ?_) (hg := wi hg3);refine EvO.ofieldN (fo := 1) (m := 0) (o2 := 1) (wantD_is rfl rfl rfl hg3) (ev rfl) (by assumption) rfl rfl rfl (fun _ => (put_T rfl _)) (fun p16 hp16 => ?_);refine qo hH at0 ?_ (hg := wi hg3);refine EvO.addS32 (wantD_is rfl rfl rfl hg3) (ev rfl) (ev rfl) (by omega) (by omega) (put_T rfl _) ?_;refine qm ?_ (hg := wi hg3);refine qg ?_ (hg := wi hg3);refine qt hg3 ?_;refine EvO.nil (leafT ?_ ?_)
   ·dsimp only [setW,List.foldl,nth,u2,u1]
    all_goals (first | rfl | simp)
   ·dsimp only [Fr.putO,Fr.put,Fr.clean,Fr.ev,Fr.get,nth,look,u1,u2,v1,v2,v4]
    all_goals (rfl)
  dsimp only [setW,List.foldl,nth,u2,u1];refine EvC.cond (by assumption) (fun h2 => ?_) (fun h2 => ?_) <;> try simp only [decide_eq_true_eq,decide_eq_false_iff_not] at h2
  ·refine qq ?_;refine qj fun K hK => ?_;refine qm ?_;refine qm ?_;refine qn ?_ (hR := hH.rows at0);simp only [List.length_map,List.length_cons,List.length_reverse];refine EvO.subZ (z := ((t.length : Nat) : Int)) rfl (ev rfl) (ev rfl) (by (try simp only [List.length_reverse,List.length_cons,List.length_nil,List.length_append,List.length_map,List.length_set]); rw [wrap_i64 (by omega) (by omega)] <;> omega) (put_T rfl _) ?_;refine qm ?_;refine qi hH at0 fun p27 hp27 => ?_;refine EvO.ofieldN (fo := 1) (m := 0) (o2 := 1) rfl (ev rfl) (by assumption) rfl rfl rfl (fun _ => (put_T rfl _)) (fun p28 hp28 => ?_);refine EvO.ostore hH rfl (ev rfl) (ev rfl) (by assumption) rfl rfl (by exact at0) (by assumption) (Nat.le_of_ble_eq_true rfl) (by exact .inl hF) (fun st hH => ?_);dsimp only [u2,u1,u3,u4,setMany,u5,u6,D.cells,Nat.reduceAdd,rangeC] at hH;refine qe hK ?_;refine qq ?_;refine qj fun K hK => ?_;refine qm ?_;refine qm ?_;refine qe hK ?_;refine EvC.ret ⟨rx,_,_,_,rfl,rfl,?_⟩;simp only [pieceS,if_pos h2]; rw [<- hset]; exact hH
  ·refine EvC.skip ?_;refine qq ?_;refine qj fun K hK => ?_;refine qm ?_;refine qm ?_;refine qm ?_;refine qg ?_;refine qh (s := 2) (vs := [_]) hH fun k34 st hk34 hH => ?_;dsimp only [u2,u1,u3,u4,setMany,u5,u6,D.cells,Nat.reduceAdd,rangeC] at hH;refine EvO.happend (s := 2) hH rfl (ev rfl) (ev rfl) (by exact at1) (by exact hH.rows (by exact at0)) rfl rfl rfl rfl rfl rfl rfl ⟨(Nat.le_of_ble_eq_true rfl),(Nat.le_of_ble_eq_true rfl)⟩ (fun _ => (put_T rfl _)) (by simp only [List.length_cons,List.length_nil,List.length_map,List.length_reverse] <;> omega) (by exact .inl hF) (fun x35 st hH => ?_);dsimp only [u2,u1,u3,u4,setMany,u5,u6,D.cells,Nat.reduceAdd,rangeC] at hH;refine qm ?_;refine qe hK ?_;refine EvC.ret ⟨rx,_,_,_,rfl,rfl,?_⟩;simp only [pieceS,if_neg h2]; rw [List.reverse_cons (a := (lo,hi)),List.map_append]; exact hH.drop 1
theorem piece_len (acc : List Rg) (lo hi : Int) : (pieceS acc lo hi).length <= acc.length + 1 := by
 unfold pieceS; split
 ·simp
 ·split <;> simp
theorem okM_eq (l : List Rg) (a b : Int) : okM l true a b = ((decide (a < b) && (decide (a < 55296) || decide (a > 57343))) && hasS l a) := by
 unfold okM;cases hasS l a <;> simp
theorem refMake_ev {s0 : St} {x : D} {l : List Rg} (hx : V.Rows s0 2 x (l.map rangeC)) (hl : l.length <= 134217728) : ∃ d,Ev pv 104 [x] s0 d s0 /\ ∃ a : List Rg,d = rangesV a /\ MakeIs l a := by
 refine Ev.mkR rfl fi104 rfl rfl rfl ?_;dsimp only [u3,u4,List.length,Nat.reduceSub,Nat.reduceAdd,w1,w2];obtain ⟨hSb,hF,hH⟩ := ri s0;generalize enterSt .ro s0 = S at *;have hx := Arg.of hx hSb;refine qq ?_;refine qj fun K hK => ?_;refine qm ?_;refine qe hK ?_;obtain ⟨_,hev,m,rfl,hperm,hpair⟩ := marks_ev (hx.rows hH) (by omega);have hlen := hperm.length_eq;have hfl := ends_flat l;have hml : m.length = 4 + (l.flatMap endsS).length := by rw [hlen]; simp [marks0]; omega
 have hmr : ∀ q ∈ m,0 <= q /\ q <= 1114112 := by
  intro q hq;have := hperm.mem_iff.1 hq;simp only [marks0,List.mem_append,List.mem_cons,List.not_mem_nil,or_false,List.mem_flatMap] at this
  rcases this with (h | h | h | h) | ⟨y,_,hy⟩
  ·omega
  ·omega
  ·omega
  ·omega
  ·unfold endsS at hy
   split at hy <;> split at hy <;> simp at hy <;> omega
 have hM := refmake_canon (l := l) (m := m) true (fun q => by
  rw [hperm.mem_iff]
  simp only [marks0,List.mem_append,List.mem_cons,List.not_mem_nil,or_false,List.mem_flatMap,or_assoc]) hpair
 have hMI : MakeIs l (piecesS l true m []).reverse := ⟨hM.1,fun r => by rw [hM.2 r]; simp⟩
 refine qq ?_;refine qj fun K hK => ?_;refine qm ?_;refine qv (hev) ?_;refine qm ?_;refine qe hK ?_;have hm0 := Arg.pure (N := s0.bs.length) (S := S) (s := 1) (es := (m.map runeC).map (elD 1)) (fun st => runesV_rows st m);change Arg s0.bs.length S 1 (runesV m) _ at hm0;refine qq ?_;refine qj fun K hK => ?_;refine qm ?_;refine qe hK ?_;refine qq ?_;refine qq ?_;refine qj fun K hK => ?_;refine qm ?_;refine qe hK ?_;have hH := hH.nulE 2;refine EvC.block ?_;refine EvC.loop (fun mm fr st => ∃ (i : Nat) (y : D) (acc : List Rg),fr.clean = ⟨6, [x,ixF_Je fr 1,ixF_Je fr 2,runesV m,y, .int .i64 (i : Nat)], []⟩ /\ Has s0.bs.length S st [.lst y 2 (acc.reverse.map rangeC)] /\ (i + mm = m.length) /\ (piecesS l true (m.drop i) acc = piecesS l true m []) /\ (acc.length <= i) /\ (∀ k ∈ acc,0 <= k.2 + 1 /\ k.2 + 1 <= 1114112)) (m.length) ?_ ?_
 ·exact ⟨0, .nul, [],rfl,hH,by omega,rfl,by simp,by simp⟩
 rintro mm fr st ⟨i,y,acc,hfr,hH,hi,hp,hal,hab⟩;rw [hfr];clear hfr;generalize ixF_Je fr = ee;clear fr;refine qq ?_;refine qq ?_;refine qj fun K hK => ?_;refine qm ?_;refine qA ?_;refine qm ?_;refine qn ?_;simp only [List.length_map];refine qg ?_;refine qe hK ?_;refine EvC.cond (by rfl) (fun h1 => ?_) (fun h1 => ?_) <;> try simp only [decide_eq_true_eq,decide_eq_false_iff_not] at h1
 ·refine EvC.skip ?_
  obtain ⟨a,ha⟩ : ∃ a,m[i]? = some a := ⟨m[i]'(by omega),List.getElem?_eq_getElem _⟩
  obtain ⟨b,hb⟩ : ∃ b,m[i + 1]? = some b := ⟨m[i + 1]'(by omega),List.getElem?_eq_getElem _⟩
  have hr1 := rune_get ha;have hr2 := rune_get hb;have hbr := hmr b (List.mem_of_getElem? hb);have har := hmr a (List.mem_of_getElem? ha)
  have hdr : m.drop i = a :: b :: m.drop (i + 2) := by
   rw [List.drop_eq_getElem_cons (by omega),List.drop_eq_getElem_cons (by omega)];rw [List.getElem?_eq_getElem (by omega)] at ha hb;rw [Option.some.inj ha,Option.some.inj hb]
  have hdr1 : m.drop (i + 1) = b :: m.drop (i + 2) := by
   rw [List.drop_eq_getElem_cons (by omega)];rw [List.getElem?_eq_getElem (by omega)] at hb;rw [Option.some.inj hb]
  rw [hdr,piecesS, <- hdr1,okM_eq] at hp;refine qq ?_;refine EvC.block ?_;refine qq ?_;refine EvC.cutT 46 (.bool ((decide (a < b) && (decide (a < 55296) || decide (a > 57343))) && hasS l a)) [] ?_ (fun ff tmp htmp => ?_)
  ·refine qm ?_;refine qm ?_;refine qr fun p17 hp17 => ?_;refine qR ?_;refine qm ?_;refine qm ?_;refine qA ?_;refine qr fun p22 hp22 => ?_;refine qR ?_;refine qg ?_;refine qm ?_;refine EvO.two 25 rfl (fun hg10 => ?_) (fun hg10 => ?_)
   ·refine qm ?_ (hg := wi hg10);refine qm ?_ (hg := wi hg10);refine qr (fun p28 hp28 => ?_) (hg := wi hg10);refine qR ?_ (hg := wi hg10);refine qg ?_ (hg := wi hg10);refine qm ?_ (hg := wi hg10);refine EvO.two 31 rfl (fun hg16 => ?_) (fun hg16 => ?_)
    ·refine qs ?_ (hg := wn hg16);refine qs ?_ (hg := wn hg16);refine qs ?_ (hg := wn hg16);refine qs ?_ (hg := wn hg16);refine qs ?_ (hg := wn hg16);refine EvO.pickT (wantD_is rfl rfl rfl hg10) rfl hg16 (put_T rfl _) ?_;refine qt hg10 ?_;refine qm ?_;refine qm ?_;refine qm ?_;refine qm ?_;refine qr fun p43 hp43 => ?_;refine qR ?_;refine qv (refHas_ev (hx.rows hH) (by omega)) ?_;refine qg ?_;refine EvO.nil (leafT ?_ ?_)
     ·dsimp only [setW,List.foldl,nth,u2,u1]
      all_goals (first | rfl | simp)
     ·dsimp only [Fr.putO,Fr.put,Fr.clean,Fr.ev,Fr.get,nth,V.look,u1,u2,v1,v2,v3,v4,v5,v6,v7,List.length,u3,u4,Nat.reduceSub,Nat.reduceAdd,List.map]
      all_goals (simp [hg10,hg16]; done)
    ·refine qm ?_ (hg := wi hg16);refine qm ?_ (hg := wi hg16);refine qr (fun p34 hp34 => ?_) (hg := wi hg16);refine qR ?_ (hg := wi hg16);refine qg ?_ (hg := wi hg16);refine EvO.pickF (wantD_is rfl rfl rfl hg10) rfl hg16 (put_T rfl _) ?_;refine qt hg10 ?_;refine qm ?_;refine EvO.two 39 rfl (fun hg24 => ?_) (fun hg24 => ?_)
     ·refine qm ?_ (hg := wi hg24);refine qm ?_ (hg := wi hg24);refine qm ?_ (hg := wi hg24);refine qr (fun p43 hp43 => ?_) (hg := wi hg24);refine qR ?_ (hg := wi hg24);refine qv (refHas_ev (hx.rows hH) (by omega)) ?_ (hg := wi hg24);refine qt hg24 ?_;refine EvO.nil (leafT ?_ ?_)
      ·dsimp only [setW,List.foldl,nth,u2,u1]
       all_goals (first | rfl | simp)
      ·dsimp only [Fr.putO,Fr.put,Fr.clean,Fr.ev,Fr.get,nth,V.look,u1,u2,v1,v2,v3,v4,v5,v6,v7,List.length,u3,u4,Nat.reduceSub,Nat.reduceAdd,List.map]
       all_goals (simp [hg10,hg16,hg24]; done)
     ·refine qs ?_ (hg := wn hg24);refine qs ?_ (hg := wn hg24);refine qs ?_ (hg := wn hg24);refine qs ?_ (hg := wn hg24);refine qs ?_ (hg := wn hg24);refine qs ?_ (hg := wn hg24);refine qu hg24 ?_;refine EvO.nil (leafT ?_ ?_)
      ·dsimp only [setW,List.foldl,nth,u2,u1]
       all_goals (first | rfl | simp)
      ·dsimp only [Fr.putO,Fr.put,Fr.clean,Fr.ev,Fr.get,nth,V.look,u1,u2,v1,v2,v3,v4,v5,v6,v7,List.length,u3,u4,Nat.reduceSub,Nat.reduceAdd,List.map]
       all_goals (simp [hg10,hg16,hg24]; done)
   ·refine qs ?_ (hg := wn hg10);refine qs ?_ (hg := wn hg10);refine qs ?_ (hg := wn hg10);refine qs ?_ (hg := wn hg10);refine qs ?_ (hg := wn hg10);refine qs ?_ (hg := wn hg10);refine qs ?_;refine qs ?_;refine qs ?_;refine qs ?_;refine qs ?_;refine qs ?_ (hg := wn hg10);refine qu hg10 ?_;refine qm ?_;refine qs ?_;refine qs ?_;refine qs ?_;refine qs ?_;refine qs ?_;refine qs ?_;refine qg ?_;refine EvO.nil (leafT ?_ ?_)
    ·dsimp only [setW,List.foldl,nth,u2,u1]
     all_goals (first | rfl | simp)
    ·dsimp only [Fr.putO,Fr.put,Fr.clean,Fr.ev,Fr.get,nth,V.look,u1,u2,v1,v2,v3,v4,v5,v6,v7,List.length,u3,u4,Nat.reduceSub,Nat.reduceAdd,List.map]
     all_goals (simp [hg10]; done)
  dsimp only [setW,List.foldl,nth,u2,u1];dsimp only [Fr.putO,Fr.put,Fr.clean,Fr.ev,Fr.get,nth,V.look,u1,u2,v1,v2,v3,v4,v5,v6,v7,List.length,u3,u4,Nat.reduceSub,Nat.reduceAdd,List.map];refine qc (fun h2 => ?_) (fun h2 => ?_) <;> try simp only [cs] at h2
  ·rw [h2,if_pos rfl] at hp;have hpl := piece_len acc a (b - 1);obtain ⟨x',st',hev2,hH2⟩ := piece_ev (acc := acc) (lo := a) (hi := b - 1) hF hH (by omega) (fun k hk => by have := hab k hk; omega);refine qj fun K hK => ?_;refine qm ?_;refine qm ?_;refine qm ?_;refine qr fun p50 hp50 => ?_;refine qR ?_;refine qm ?_;refine qm ?_;refine qA ?_;refine qr fun p55 hp55 => ?_;refine qR ?_;refine EvO.subS32 rfl (ev rfl) (ev rfl) (by omega) (by omega) (put_T rfl _) ?_;refine qv (hev2) ?_;refine qm ?_;refine qe hK ?_;have hH := hH2;refine qj fun K hK => ?_;refine qm ?_;refine qA ?_;refine qm ?_;refine qe hK ?_;refine ⟨mm - 1,by omega,⟨i + 1,x',pieceS acc a (b - 1),rfl,hH,by omega,hp,by omega,?_⟩⟩;intro k hk;unfold pieceS at hk
   split at hk
   ·simp only [List.mem_cons,List.not_mem_nil,or_false] at hk; subst hk; simp only; omega
   ·rename_i h t
    split at hk
    ·rcases List.mem_cons.1 hk with rfl | hk
     ·simp only; omega
     ·exact hab k (List.mem_cons_of_mem _ hk)
    ·rcases List.mem_cons.1 hk with rfl | hk
     ·simp only; omega
     ·exact hab k hk
  ·rw [h2] at hp;refine EvC.skip ?_;refine qj fun K hK => ?_;refine qm ?_;refine qA ?_;refine qm ?_;refine qe hK ?_;exact ⟨mm - 1,by omega,⟨i + 1,y,acc,rfl,hH,by omega,hp,by omega,hab⟩⟩
 ·refine EvC.exit ?_;refine qq ?_;refine qj fun K hK => ?_;refine qm ?_;refine qm ?_;refine qe hK ?_
  have hfin : acc = piecesS l true m [] := by
   rw [<- hp];have hdl : (m.drop i).length <= 1 := by rw [List.length_drop]; omega
   match hd : m.drop i,hdl with
   | [],_ => rfl
   | [_],_ => rfl
  refine EvC.ret ⟨rx,_,_,rfl,rl hSb hH ((hH.freeze at0 (range_plain _) (n := 15) (by decide))),?_⟩;exact ⟨acc.reverse,by rw [rangesV_el],by rw [hfin]; exact hMI⟩
theorem refRight_ev {s0 : St} {x : D} {l : List Rg} (hx : V.Rows s0 2 x (l.map rangeC)) (hl : l.length <= 1048576) : Ev pv 78 [x] s0 (.bool (rightS l)) s0 := by
 refine Ev.mk1 rfl fi78 rfl rfl rfl ?_;dsimp only [u3,u4,List.length,Nat.reduceSub,Nat.reduceAdd,w1,w2];obtain ⟨hSb,hF,hH⟩ := ri s0;generalize enterSt .ro s0 = S at *;have hx := Arg.of hx hSb;refine qq ?_;refine qj fun K hK => ?_;refine qm ?_;refine qe hK ?_;obtain ⟨_,hev,m,rfl,hM⟩ := refMake_ev (hx.rows hH) (by omega);rw [rightS_of hM];refine qq ?_;refine qj fun K hK => ?_;refine qm ?_;refine qv (hev) ?_;refine qm ?_;refine qe hK ?_;have hm0 : Arg s0.bs.length S 2 (rangesV m) (m.map rangeC) := Arg.pure (fun st => rangesV_rows st m);refine qq ?_;refine qq ?_;refine qj fun K hK => ?_;refine qm ?_;refine qn ?_;simp only [List.length_map];refine qm ?_;refine qn ?_;simp only [List.length_map];refine qg ?_;refine qe hK ?_
 by_cases hlen : m.length = l.length
 ·refine EvC.cond (v := false) ?_ (fun h => by cases h) (fun _ => ?_)
  ·dsimp only [Fr.ev,Fr.get,nth,V.look]; rw [hlen]; simp
  refine EvC.skip ?_;refine qq ?_;refine qq ?_;refine qj fun K hK => ?_;refine qm ?_;refine qe hK ?_;refine EvC.block ?_;refine EvC.loop (fun mm fr st => ∃ (i : Nat),fr.clean = ⟨5, [x,ixF_Je fr 1, .bool false,rangesV m, .int .i64 (i : Nat)], []⟩ /\ Has s0.bs.length S st [] /\ (i + mm = l.length) /\ (l.take i = m.take i)) (l.length) ?_ ?_
  ·exact ⟨0,rfl,hH,by omega,rfl⟩
  rintro mm fr st ⟨i,hfr,hH,hi,ht⟩;rw [hfr];clear hfr;generalize ixF_Je fr = ee;clear fr;refine qq ?_;refine qq ?_;refine qj fun K hK => ?_;refine qm ?_;refine qm ?_;refine qn ?_;simp only [List.length_map];refine qg ?_;refine qe hK ?_;refine EvC.cond (by rfl) (fun h1 => ?_) (fun h1 => ?_) <;> try simp only [decide_eq_true_eq,decide_eq_false_iff_not] at h1
  ·refine EvC.skip ?_
   obtain ⟨p,hp⟩ : ∃ p,l[i]? = some p := ⟨l[i]'(by omega),List.getElem?_eq_getElem _⟩
   obtain ⟨q,hq⟩ : ∃ q,m[i]? = some q := ⟨m[i]'(by omega),List.getElem?_eq_getElem _⟩
   have hr1 := range_get hp;have hr2 := range_get hq;refine qq ?_;refine EvC.block ?_;refine qq ?_;refine qj fun K hK => ?_;refine qm ?_;refine qm ?_;refine qr fun p20 hp20 => ?_;refine EvO.rloadS rfl (ev rfl) (by assumption) rfl (put_T rfl _) ?_;refine qm ?_;refine qm ?_;refine qr fun p24 hp24 => ?_;refine EvO.rloadS rfl (ev rfl) (by assumption) rfl (put_T rfl _) ?_;refine EvO.neB rfl (ev rfl) (ev rfl) (neq_range q p) (put_T rfl _) ?_;refine qe hK ?_;refine EvC.cond (by rfl) (fun h2 => ?_) (fun h2 => ?_) <;> try simp only [decide_eq_true_eq,decide_eq_false_iff_not,Bool.not_eq_true',Bool.not_eq_false'] at h2
   ·refine qq ?_;refine qj fun K hK => ?_;refine qm ?_;refine qe hK ?_;rw [decide_eq_false (ne_of_get hp hq (by simpa [eq_comm] using h2))];refine EvC.ret ⟨rx,_,rfl,rl hSb hH (rfl)⟩
   ·refine EvC.skip ?_;refine qj fun K hK => ?_;refine qm ?_;refine qA ?_;refine qm ?_;refine qe hK ?_;exact ⟨mm - 1,by omega,⟨i + 1,rfl,hH,by omega,take_eq_step hp hq ht (by simpa [eq_comm] using h2)⟩⟩
  ·refine EvC.exit ?_;refine qq ?_;refine qj fun K hK => ?_;refine qm ?_;refine qe hK ?_;rw [decide_eq_true (by rw [List.take_of_length_le (by omega),List.take_of_length_le (by omega)] at ht; exact ht)];refine EvC.ret ⟨rx,_,rfl,rl hSb hH (rfl)⟩
 ·refine EvC.cond (v := true) ?_ (fun _ => ?_) (fun h => by cases h)
  ·dsimp only [Fr.ev,Fr.get,nth,V.look]; simp; omega
  refine qq ?_;refine qj fun K hK => ?_;refine qm ?_;refine qe hK ?_;rw [decide_eq_false (fun h => hlen (by rw [h]))];refine EvC.ret ⟨rx,_,rfl,rl hSb hH (rfl)⟩
structure PIns where
 op : Int
 x : Int
 y : Int
 rd : D
 rs : List Rg
def insC (i : PIns) : List D := [.int .i64 i.op, .int .i64 i.x, .int .i64 i.y,i.rd]
def PIns.ok (i : PIns) : Prop := SlD i.rd 2 (i.rs.map rangeC) /\ i.rs.length <= 1048576
def intC (n : Int) : List D := [.int .i64 n]
structure Pg where
 cd : D
 code : List PIns
 sd : D
 starts : List Int
structure Pg.ok (p : Pg) : Prop where
 c : SlD p.cd 4 (p.code.map insC)
 s : SlD p.sd 1 (p.starts.map intC)
 i : ∀ x ∈ p.code,x.ok
 cl : p.code.length <= 1048576
 sl : p.starts.length <= 1048576
def Pg.cs (p : Pg) : List D := [p.cd,p.sd]
def Pg.d (p : Pg) : D := .agg p.cs
theorem ins_get {l : List PIns} {i : Nat} {q : PIns} (h : l[i]? = some q) : (l.map insC)[i]? = some (insC q) := by rw [List.getElem?_map,h]; rfl
theorem int_get {l : List Int} {i : Nat} {q : Int} (h : l[i]? = some q) : (l.map intC)[i]? = some (intC q) := by rw [List.getElem?_map,h]; rfl
def inS (v n : Int) : Bool := decide (v >= 0) && decide (v < n)
noncomputable def shapedS (n ns pc : Nat) (i : PIns) : Bool :=
 if i.op = 1 then i.y == 0 && (decide (((pc + 1 : Nat) : Int) < n) && i.x == 0 && rightS i.rs)
 else i.rs.isEmpty &&
  (if i.op = 2 then inS i.x n && inS i.y n
  else i.y == 0 &&
   (if i.op = 3 then inS i.x n
   else if i.op = 4 then decide (((pc + 1 : Nat) : Int) < n) && inS i.x 10
   else if i.op = 5 \/ i.op = 6 then decide (((pc + 1 : Nat) : Int) < n) && i.x == 0
   else if i.op = 7 then inS i.x ns
   else false))
theorem int_plain (l : List Int) : ∀ e ∈ l.map intC, ∀ d ∈ e,plainC d = true := by
 intro e he d hd;obtain ⟨x,_,rfl⟩ := List.mem_map.1 he;simp only [intC,List.mem_cons,List.not_mem_nil,or_false] at hd;subst hd; rfl
theorem int_len (l : List Int) : ∀ e ∈ l.map intC,e.length = 1 := by
 intro e he; obtain ⟨x,_,rfl⟩ := List.mem_map.1 he; rfl
def intsV (l : List Int) : D := .sl ((l.map intC).map (elD 1))
theorem intsV_sl (l : List Int) : SlD (intsV l) 1 (l.map intC) := SlD.frozen (int_len l) (int_plain l)
def nextS (pc : Nat) (i : PIns) : List Int :=
 if i.op = 2 then [i.x,i.y] else if i.op = 3 then [i.x] else if i.op = 7 then [] else [((pc + 1 : Nat) : Int)]
def closedS (code : List PIns) : Prop := ∀ pc i,code[pc]? = some i -> ∀ v ∈ nextS pc i,0 <= v /\ v < code.length
theorem shaped_next {n ns pc : Nat} {i : PIns} (h : shapedS n ns pc i = true) : ∀ v ∈ nextS pc i,0 <= v /\ v < n := by
 intro v hv
 have inS_iff : ∀ a b : Int,inS a b = true -> 0 <= a /\ a < b := fun a b h => by
  unfold inS at h; simp only [Bool.and_eq_true,decide_eq_true_eq] at h; exact ⟨h.1,h.2⟩
 unfold shapedS at h;unfold nextS at hv
 split at h
 ·rename_i h1;rw [if_neg (by omega),if_neg (by omega),if_neg (by omega)] at hv;simp only [Bool.and_eq_true,decide_eq_true_eq] at h;simp only [List.mem_cons,List.not_mem_nil,or_false] at hv;subst hv; omega
 ·simp only [Bool.and_eq_true] at h;obtain ⟨_,h⟩ := h
  split at h
  ·rename_i h2;rw [if_pos h2] at hv;simp only [Bool.and_eq_true] at h;simp only [List.mem_cons,List.not_mem_nil,or_false] at hv
   rcases hv with rfl | rfl
   ·exact inS_iff _ _ h.1
   ·exact inS_iff _ _ h.2
  ·rename_i h2;rw [if_neg h2] at hv;simp only [Bool.and_eq_true] at h;obtain ⟨_,h⟩ := h
   split at h
   ·rename_i h3;rw [if_pos h3] at hv;simp only [List.mem_cons,List.not_mem_nil,or_false] at hv;subst hv; exact inS_iff _ _ h
   ·rename_i h3;rw [if_neg h3] at hv
    split at h
    ·rename_i h4;rw [if_neg (by omega)] at hv;simp only [Bool.and_eq_true,decide_eq_true_eq] at h;simp only [List.mem_cons,List.not_mem_nil,or_false] at hv;subst hv; omega
    ·split at h
     ·rename_i h5;rw [if_neg (by omega)] at hv;simp only [Bool.and_eq_true,decide_eq_true_eq] at h;simp only [List.mem_cons,List.not_mem_nil,or_false] at hv;subst hv; omega
     ·split at h
      ·rename_i h7;rw [if_pos h7] at hv; cases hv
      ·cases h
def dfs (code : List PIns) : Nat -> List Bool -> List Int -> List Bool
 | 0,seen,_ => seen
 | _ + 1,seen, [] => seen
 | f + 1,seen,v :: stk => match seen[v.toNat]? with
  | some false => match code[v.toNat]? with
   | some i => dfs code f (seen.set v.toNat true) ((nextS v.toNat i).reverse ++ stk)
   | none => seen
  | _ => dfs code f seen stk
def reachS (code : List PIns) (start : Int) : List Bool := dfs code (3 * code.length + 1) (List.replicate code.length false) [start]
theorem count_set {seen : List Bool} {k : Nat} (h : seen[k]? = some false) : (seen.set k true).count false + 1 = seen.count false := by
 induction seen generalizing k with
 | nil => simp at h
 | cons b l ih =>
  cases k with
  | zero => simp at h; subst h; simp
  | succ k =>
   have := ih (k := k) (by simpa using h);simp only [List.set_cons_succ,List.count_cons];omega
end Go.Proofs.Ytnleclohocdkaaa
