/- own -/
import Derived.Test.YtapfahlbkhgdpaaTM2
import Derived.DataReads
import Derived.ChangeOld
import GoSem.ClaimChange
import Derived.Below
import Derived.Test.YtapfahlbkhgdpaaRows
import Derived.Test.YtapfahlbkhgdpaaTGCa
import Derived.Test.YtapfahlbkhgdpaaTGHr
import Derived.Test.YtapfahlbkhgdpaaTPx
import Derived.KernelRfl
import Derived.Test.YtapfahlbkhgdpaaTDgp
set_option linter.unusedSimpArgs false
set_option linter.unusedVariables false
set_option linter.unusedSectionVars false
set_option linter.unnecessarySimpa false
set_option maxRecDepth 100000
set_option maxHeartbeats 4000000
namespace Go.V
open Go.RowKit
def isAggW {H : Type} : DataW H -> Bool
  | .agg _ => true
  | _ => false
mutual
def dcs {H : Type} : DataW H -> List D
  | .lit (.bool b) => [.bool b]
  | .lit (.int k n) => [.int k n]
  | .lit (.string l) => [.str l]
  | .lit _ => [.junk]
  | .nil => [.nul]
  | .slice elems _ => [.sl (dels elems)]
  | .agg parts => dparts parts
  | .ptr _ => [.junk]
  | .iface _ _ => [.junk]
  | .map _ => [.junk]
  | .held _ => [.junk]
def dels {H : Type} : List (DataW H) -> List D
  | [] => []
  | d :: r => (if isAggW d then .agg (dcs d) else (dcs d).headD .junk) :: dels r
def dparts {H : Type} : List (DataW H) -> List D
  | [] => []
  | d :: r => dcs d ++ dparts r
end
def dval {H : Type} (d : DataW H) : D := if isAggW d then .agg (dcs d) else (dcs d).headD .junk
theorem dels_map {H : Type} : ∀ l : List (DataW H),dels l = l.map dval
  | [] => rfl
  | d :: r => by simp only [dels,List.map_cons,dels_map r]; rfl
def contig (P : Program) : Nat -> List Field -> Option Nat
  | o, [] => some o
  | o,f :: fs => if f.offset = o then contig P (o + P.cellsOf f.type) fs else none
def okT (P : Program) : Nat -> TypeId -> Bool
  | 0,_ => false
  | n + 1,t => match P.underlying t with
    | some .bool => true
    | some (.int _) => true
    | some .string => true
    | some (.slice e) => okT P n e && decide (0 < P.cellsOf e)
    | some (.struct fs) => (contig P 0 fs.toList == some (P.cellsOf t)) && fs.toList.all fun f => okT P n f.type
    | some (.array m e) => okT P n e && (P.cellsOf t == m * P.cellsOf e)
    | _ => false
structure CR (w : World) (Z : Nat -> Prop) (cs : List D) (vs : List Value) : Prop where
  len : cs.length = vs.length
  one : ∀ v ∈ vs,v.oneCell' = true
  onec : ∀ c ∈ cs,c.cells? = some [c]
  rel : ∀ (i : Nat) c v,cs[i]? = some c -> vs[i]? = some v -> IR w Z c v
theorem CR.nil {w : World} {Z : Nat -> Prop} : CR w Z [] [] := ⟨rfl,by simp,by simp,by simp⟩
theorem CR.single {w : World} {Z : Nat -> Prop} {c : D} {v : Value} (h : IR w Z c v) (h1 : v.oneCell' = true) (h2 : c.cells? = some [c]) : CR w Z [c] [v] :=
  ⟨rfl,by simpa using h1,by simpa using h2,fun i c' v' hc hv => by
    cases i with
    | zero => simp at hc hv; subst hc; subst hv; exact h
    | succ i => simp at hc⟩
theorem CR.append {w : World} {Z : Nat -> Prop} {cs cs' : List D} {vs vs' : List Value} (h : CR w Z cs vs) (g : CR w Z cs' vs') : CR w Z (cs ++ cs') (vs ++ vs') := by
  refine ⟨by simp [h.len,g.len],fun v hv => ?_,fun c hc => ?_,fun i c v hc hv => ?_⟩
  · rcases List.mem_append.1 hv with hv | hv
    · exact h.one v hv
    · exact g.one v hv
  · rcases List.mem_append.1 hc with hc | hc
    · exact h.onec c hc
    · exact g.onec c hc
  · rw [List.getElem?_append] at hc hv
    have := h.len
    split at hc
    · rw [if_pos (by omega)] at hv; exact h.rel i c v hc hv
    · rw [if_neg (by omega)] at hv; rw [<- this] at hv; exact g.rel _ c v hc hv
theorem parts_cr {H : Type} {P : Program} {w : World} {Z : Nat -> Prop} {f : Field -> Option (DataW H × List MemPlace)} {cs : List Value} : ∀ {fs : List Field} {o e : Nat} {xs : List (DataW H × List MemPlace)},contig P o fs = some e -> e <= cs.length -> fs.mapM f = some xs ->
    (∀ g ∈ fs, ∀ x,f g = some x -> CR w Z (dcs x.1) ((cs.drop g.offset).take (P.cellsOf g.type))) -> CR w Z (dparts (xs.map (·.1))) ((cs.drop o).take (e - o)) /\ o <= e
  | [],o,e,xs,hc,_,hm,_ => by
    simp [contig] at hc; subst hc
    simp at hm; subst hm
    simp [dparts]; exact CR.nil
  | g :: fs,o,e,xs,hc,he,hm,hx => by
    simp only [contig] at hc
    split at hc
    · rename_i ho
      rw [List.mapM_cons] at hm
      cases h1 : f g with
      | none => rw [h1] at hm; simp at hm
      | some x =>
        rw [h1] at hm
        cases h2 : fs.mapM f with
        | none => rw [h2] at hm; simp at hm
        | some ys =>
          rw [h2] at hm
          simp at hm; subst hm
          obtain ⟨ih,hle⟩ := parts_cr hc he h2 fun g' hg' => hx g' (List.mem_cons_of_mem _ hg')
          have hg := hx g (List.mem_cons_self ..) x h1
          rw [ho] at hg
          refine ⟨?_,by omega⟩
          simp only [List.map_cons,dparts]
          have : (cs.drop o).take (e - o) = (cs.drop o).take (P.cellsOf g.type) ++ (cs.drop (o + P.cellsOf g.type)).take (e - (o + P.cellsOf g.type)) := by
            rw [<- List.drop_drop,show e - o = P.cellsOf g.type + (e - (o + P.cellsOf g.type)) by omega,List.take_add]
          rw [this]
          exact hg.append ih
    · cases hc
theorem elems_cr {H : Type} {w : World} {Z : Nat -> Prop} {s : Nat} {f : Nat -> Option (DataW H × List MemPlace)} {cs : List Value} : ∀ {m k : Nat} {xs : List (DataW H × List MemPlace)},(List.range' k m).mapM f = some xs -> (k + m) * s <= cs.length ->
    (∀ i x,f i = some x -> CR w Z (dcs x.1) ((cs.drop (i * s)).take s)) -> CR w Z (dparts (xs.map (·.1))) ((cs.drop (k * s)).take (m * s))
  | 0,k,xs,hm,_,_ => by simp at hm; subst hm; simp [dparts]; exact CR.nil
  | m + 1,k,xs,hm,hl,hx => by
    rw [List.range'_succ,List.mapM_cons] at hm
    cases h1 : f k with
    | none => rw [h1] at hm; simp at hm
    | some x =>
      rw [h1] at hm
      cases h2 : (List.range' (k + 1) m).mapM f with
      | none => rw [h2] at hm; simp at hm
      | some ys =>
        rw [h2] at hm
        simp at hm; subst hm
        have ih := elems_cr h2 (by rw [show k + 1 + m = k + (m + 1) by omega]; exact hl) hx
        simp only [List.map_cons,dparts]
        rw [show (m + 1) * s = s + m * s by rw [Nat.add_mul]; omega,List.take_add,List.drop_drop,show k * s + s = (k + 1) * s by rw [Nat.add_mul]; omega]
        exact (hx k x h1).append ih
theorem cells_one {c : D} (h : c.cells? = some [c]) : c.cells = [c] := by
  cases c <;> first | rfl | cases h | (simp only [D.cells?,Option.some.injEq] at h; simpa only [D.cells] using h)
theorem add_none (b off n : Nat) : (⟨b,off,none⟩ : Addr).add n = ⟨b,off + n,none⟩ := by
  cases n <;> simp [Addr.add]
theorem trod_cr {H : Type} {enc : TypeId × Value -> H} {P : Program} {w : World} {spare : Nat -> Bool} {held : Bool} : ∀ (fuel : Nat) (t : TypeId) (cs : List Value) (d : DataW H) (ps : List MemPlace) (n : Nat),DataW.trod enc P w 0 spare held fuel t cs = some (d,ps) -> okT P n t = true ->
    CR w (fun b => b < w.heap.size) (dcs d) cs /\ cs.length = (match P.underlying t with | some (.struct _) | some (.array _ _) => P.cellsOf t | _ => 1) /\ (isAggW d = (match P.underlying t with | some (.struct _) | some (.array _ _) => true | _ => false))
  | 0,t,cs,d,ps,n,h,_ => by simp [DataW.trod] at h
  | fuel + 1,t,cs,d,ps,0,h,ht => by simp [okT] at ht
  | fuel + 1,t,cs,d,ps,n + 1,h,ht => by
    simp only [okT] at ht
    unfold DataW.trod at h
    cases hu : P.underlying t with
    | none => rw [hu] at ht; simp at ht
    | some u =>
      rw [hu] at h ht
      cases u with
      | bool =>
        rcases cs with _ | ⟨v,_ | ⟨v2,cs⟩⟩ <;> try (simp at h; done)
        cases v <;> simp at h
        obtain ⟨rfl,rfl⟩ := h
        exact ⟨CR.single (.bool _) rfl rfl,rfl,rfl⟩
      | int k =>
        rcases cs with _ | ⟨v,_ | ⟨v2,cs⟩⟩ <;> try (simp at h; done)
        cases v <;> simp at h
        obtain ⟨⟨rfl,_⟩,rfl,rfl⟩ := h
        exact ⟨CR.single (.int _ _) rfl rfl,rfl,rfl⟩
      | string =>
        rcases cs with _ | ⟨v,_ | ⟨v2,cs⟩⟩ <;> try (simp at h; done)
        cases v <;> simp at h
        rename_i b
        obtain ⟨_,rfl,rfl⟩ := h
        refine ⟨CR.single ?_ rfl rfl,rfl,rfl⟩
        have := IR.str (w := w) (Z := fun b => b < w.heap.size) b.data.toList
        simpa using this
      | slice e =>
        simp only [Bool.and_eq_true,decide_eq_true_eq] at ht
        rcases cs with _ | ⟨v,_ | ⟨v2,cs⟩⟩ <;> try (simp at h; done)
        cases v <;> try (simp at h; done)
        rename_i a len cap
        cases a with
        | none =>
          cases len <;> cases cap <;> simp at h
          obtain ⟨rfl,rfl⟩ := h
          exact ⟨CR.single .nul rfl rfl,rfl,rfl⟩
        | some a =>
          simp only at h
          split at h
          · rename_i hc
            simp only [Option.bind_eq_some_iff,Option.map_eq_some_iff] at h
            obtain ⟨elems,he,rest,hr,hd⟩ := h
            cases hd
            refine ⟨?_,rfl,rfl⟩
            have hlen : elems.length = len := by simpa using mapM_some_length he
            have hget := mapM_some_get he
            have each : ∀ (i : Nat),i < len -> ∃ x cs,elems[i]? = some x /\ w.cells? 0 (a.add (i * P.cellsOf e)) (P.cellsOf e) = some cs /\ CR w (fun b => b < w.heap.size) (dcs x.1) cs /\ cs.length = P.cellsOf e /\ (isAggW x.1 = (match P.underlying e with | some (.struct _) | some (.array _ _) => true | _ => false)) /\ cs.length = (match P.underlying e with | some (.struct _) | some (.array _ _) => P.cellsOf e | _ => 1) := by
              intro i hi
              have h1 := hget i i (by simp [hi])
              have h2 : elems[i]? = some (elems[i]'(by omega)) := List.getElem?_eq_getElem _
              rw [h2] at h1
              obtain ⟨cs,hcs,hx⟩ := Option.bind_eq_some_iff.1 h1
              obtain ⟨q1,q2,q3⟩ := trod_cr fuel e cs _ _ n hx ht.1
              exact ⟨_,cs,h2,hcs,q1,(World.cells?_some hcs).2.1,q3,q2⟩
            refine CR.single ?_ rfl rfl
            cases len with
            | zero =>
              have : elems = [] := by cases elems with | nil => rfl | cons _ _ => simp at hlen
              subst this
              exact .emp _ _
            | succ m =>
              have hsp : a.spot = none /\ a.block < w.heap.size := by
                obtain ⟨x,cs,_,h2,_,_⟩ := each 0 (by omega)
                refine ⟨?_,?_⟩
                · have := (World.cells?_some h2).2.2 0 ht.2
                  have hl := (World.cells?_some h2).2.1
                  obtain ⟨c0,hc0⟩ : ∃ c0,cs[0]? = some c0 := ⟨cs[0]'(by omega),List.getElem?_eq_getElem _⟩
                  rw [hc0] at this
                  simpa [Addr.add] using World.cell?_spot this
                · simpa [Addr.add] using World.cells?_block h2 ht.2
              obtain ⟨b,off,spot⟩ := a
              simp only at hsp
              obtain ⟨rfl,hb⟩ := hsp
              have hcell : ∀ (i j : Nat),i < m + 1 -> j < P.cellsOf e -> ∃ x cs v,elems[i]? = some x /\ cs[j]? = some v /\ w.cell? ⟨b,off + (i * P.cellsOf e + j),none⟩ = some v /\ CR w (fun b => b < w.heap.size) (dcs x.1) cs := by
                intro i j hi hj
                obtain ⟨x,cs,h1,h2,h3,h4,_⟩ := each i hi
                have := (World.cells?_some h2).2.2 j hj
                obtain ⟨v,hv⟩ : ∃ v,cs[j]? = some v := ⟨cs[j]'(by omega),List.getElem?_eq_getElem _⟩
                rw [hv] at this
                refine ⟨x,cs,v,h1,hv,?_,h3⟩
                rw [<- this,add_none,add_none,Nat.add_assoc]
              have hes : (dels (elems.map (·.1))) = elems.map fun x => dval x.1 := by rw [dels_map,List.map_map]; rfl
              have hE : ∀ (i : Nat) q,(dels (elems.map (·.1)))[i]? = some q -> ∃ x cs,i < m + 1 /\ elems[i]? = some x /\ q.cells? = some q.cells /\ q.cells = dcs x.1 /\ CR w (fun b => b < w.heap.size) (dcs x.1) cs /\ cs.length = P.cellsOf e := by
                intro i q hq
                rw [hes,List.getElem?_map] at hq
                obtain ⟨x,hx,rfl⟩ := Option.map_eq_some_iff.1 hq
                have hi : i < m + 1 := by
                  rcases Nat.lt_or_ge i (m + 1) with h' | h'
                  · exact h'
                  · rw [List.getElem?_eq_none (by omega)] at hx; cases hx
                obtain ⟨x',cs,h1,h2,h3,h4,h5,h6⟩ := each i hi
                rw [hx] at h1; cases h1
                refine ⟨x,cs,hi,hx,?_,?_,h3,h4⟩
                · unfold dval
                  split
                  · rfl
                  · rename_i hna
                    have hl1 : (dcs x.1).length = 1 := by
                      rw [h3.len,h6]
                      rw [h5] at hna
                      revert hna
                      split <;> simp
                    match hd : dcs x.1,hl1 with
                    | [c],_ => have := h3.onec c (by rw [hd]; simp); simp only [List.headD_cons]; rw [cells_one this]; exact this
                · unfold dval
                  split
                  · rfl
                  · rename_i hna
                    have hl1 : (dcs x.1).length = 1 := by
                      rw [h3.len,h6]
                      rw [h5] at hna
                      revert hna
                      split <;> simp
                    match hd : dcs x.1,hl1 with
                    | [c],_ => have := h3.onec c (by rw [hd]; simp); simp only [List.headD_cons]; exact cells_one this
              have hL : (dels (elems.map (·.1))).length = m + 1 := by rw [hes]; simp [hlen]
              have hf := fun (i j : Nat) (hi : i < m + 1) (hj : j < P.cellsOf e) => hcell i j hi hj
              have := IR.sl (w := w) (Z := fun b => b < w.heap.size) (dels (elems.map (·.1))) b off cap (P.cellsOf e) (fun i j => (w.cell? ⟨b,off + (i * P.cellsOf e + j),none⟩).getD undef) hb (by rw [hL]; exact hc.2.1)
                (fun i q hq => by
                  obtain ⟨x,cs,h1,h2,h3,h4,h5,h6⟩ := hE i q hq
                  exact ⟨h3,by rw [h4,h5.len,h6]⟩)
                (fun i q j c hq hj => by
                  obtain ⟨x,cs,h1,h2,h3,h4,h5,h6⟩ := hE i q hq
                  have hjl : j < P.cellsOf e := by
                    rcases Nat.lt_or_ge j (P.cellsOf e) with h' | h'
                    · exact h'
                    · rw [h4,List.getElem?_eq_none (by rw [h5.len,h6]; exact h')] at hj; cases hj
                  obtain ⟨x',cs',v,g1,g2,g3,g4⟩ := hf i j h1 hjl
                  rw [g3]
                  exact ⟨rfl,g4.one v (List.mem_of_getElem? g2)⟩)
                (fun i q j c hq hj => by
                  obtain ⟨x,cs,h1,h2,h3,h4,h5,h6⟩ := hE i q hq
                  have hjl : j < P.cellsOf e := by
                    rcases Nat.lt_or_ge j (P.cellsOf e) with h' | h'
                    · exact h'
                    · rw [h4,List.getElem?_eq_none (by rw [h5.len,h6]; exact h')] at hj; cases hj
                  obtain ⟨x',cs',v,g1,g2,g3,g4⟩ := hf i j h1 hjl
                  rw [g3]
                  rw [h2] at g1; cases g1
                  exact g4.rel j c v (by rw [<- h4]; exact hj) g2)
              rw [hL] at this
              exact this
          · cases h
      | struct fs =>
        simp only [Bool.and_eq_true,beq_iff_eq,List.all_eq_true] at ht
        simp only at h
        split at h
        · rename_i hl
          obtain ⟨xs,hx,hd⟩ := Option.map_eq_some_iff.1 h
          cases hd
          refine ⟨?_,hl,rfl⟩
          obtain ⟨h1,_⟩ := parts_cr (w := w) (Z := fun b => b < w.heap.size) (cs := cs) ht.1 (by omega) hx fun g hg x hgx => (trod_cr fuel g.type _ _ _ n hgx (ht.2 g hg)).1
          rw [List.drop_zero,Nat.sub_zero, <- hl,List.take_length] at h1
          exact h1
        · cases h
      | array m e =>
        simp only [Bool.and_eq_true,beq_iff_eq] at ht
        simp only at h
        split at h
        · rename_i hl
          obtain ⟨xs,hx,hd⟩ := Option.map_eq_some_iff.1 h
          cases hd
          refine ⟨?_,hl,rfl⟩
          rw [List.range_eq_range'] at hx
          have h1 := elems_cr (w := w) (Z := fun b => b < w.heap.size) (s := P.cellsOf e) (cs := cs) hx (by rw [Nat.zero_add, <- ht.2,hl]; exact Nat.le_refl _) fun i x hix => (trod_cr fuel e _ _ _ n hix ht.1).1
          rw [Nat.zero_mul,List.drop_zero, <- ht.2, <- hl,List.take_length] at h1
          exact h1
        · cases h
      | _ => simp at ht
theorem trod_ir {H : Type} {enc : TypeId × Value -> H} {P : Program} {w : World} {spare : Nat -> Bool} {held : Bool} {r : Reach} {base : Nat} {t : TypeId} {v : Value} {d : DataW H} {ps : List MemPlace} {n : Nat} (h : DataW.Trod enc P w 0 spare held t v d ps) (ht : okT P n t = true) (hv : Value.okWide P w r base t v) :
    IR w (fun b => b < w.heap.size) (dval d) v := by
  obtain ⟨fuel,hf⟩ := h
  obtain ⟨h1,h2,h3⟩ := trod_cr fuel t _ d ps n hf ht
  have hu : ∃ u,P.underlying t = some u := by
    cases n with
    | zero => simp [okT] at ht
    | succ n =>
      simp only [okT] at ht
      cases hu : P.underlying t with
      | none => rw [hu] at ht; simp at ht
      | some u => exact ⟨u,rfl⟩
  obtain ⟨u,hu⟩ := hu
  unfold Value.okWide at hv
  rw [hu] at hv h2 h3
  have hagg : (∃ cs : Array Value,v = .agg cs) -> isAggW d = true -> IR w (fun b => b < w.heap.size) (dval d) v := by
    rintro ⟨cs,rfl⟩ hd
    unfold dval
    rw [if_pos hd]
    have := IR.agg (w := w) (Z := fun b => b < w.heap.size) (dcs d) cs.toList (by simpa [Value.cells] using h1.len) (by simpa [Value.cells] using h1.one) (by simpa [Value.cells] using h1.rel)
    simpa using this
  have hone : isAggW d = false -> v.cells.toList.length = 1 -> (∀ cs,v ≠ .agg cs) -> IR w (fun b => b < w.heap.size) (dval d) v := by
    intro hd hl hna
    unfold dval
    rw [if_neg (by rw [hd]; simp)]
    have hc : v.cells.toList = [v] := by cases v <;> first | rfl | exact absurd rfl (hna _)
    rw [hc] at h1
    match hq : dcs d,h1.len with
    | [c],_ => exact h1.rel 0 c v (by rw [hq]; rfl) rfl
  have hcell : Cell.okWide P w r base t v -> ∀ cs,v ≠ .agg cs := by
    rintro hc cs rfl
    unfold Cell.okWide at hc
    rw [hu] at hc
    cases u <;> simp [Cell.ok,hu] at hc
  cases u with
  | struct fs => obtain ⟨cs,h,_⟩ := hv; exact hagg ⟨cs,h⟩ h3
  | array m e => obtain ⟨cs,h,_⟩ := hv; exact hagg ⟨cs,h⟩ h3
  | _ => exact hone h3 h2 (hcell hv)
end Go.V
namespace Go.V
open Go.RowKit
theorem arg_string {H : Type} {enc : TypeId × Value -> H} {P : Program} {w : World} {spare : Nat -> Bool} {held : Bool} {t : TypeId} {v : Value} {d : DataW H} {ps : List MemPlace} (h : DataW.Trod enc P w 0 spare held t v d ps) (ht : P.underlying t = some .string) :
    ∃ l : List UInt8,dval d = .str l /\ d = .lit (.string l) := by
  obtain ⟨fuel,h⟩ := h
  cases fuel with
  | zero => simp [DataW.trod] at h
  | succ fuel =>
    unfold DataW.trod at h
    rw [ht] at h
    generalize v.cells.toList = cs at h
    rcases cs with _ | ⟨v,_ | ⟨v2,cs⟩⟩ <;> try (simp at h; done)
    cases v <;> simp at h
    obtain ⟨_,rfl,_⟩ := h
    exact ⟨_,rfl,rfl⟩
theorem law_calls {pv : Pv} {P : Program} (h : pv.Ok P /\ pv.codes /\ CfOk P pv (primF pv)) {f : Nat} {ds : List D} {st' : St} (hs : Ev pv f ds ⟨[],0,0⟩ (.bool true) st') {w : World} (hG : Gl w fun b => b < w.heap.size) {us : List Value} (hl : ds.length = us.length)
    (hr : ∀ (i : Nat) c v,ds[i]? = some c -> us[i]? = some v -> IR w (fun b => b < w.heap.size) c v) : Calls P f us.toArray w fun e w' => e = .returned (.bool true) /\ Below w.heap.size w w' := by
  obtain ⟨N,hN⟩ := Ev.out hs
  refine (sound h (hN N (Nat.le_refl _)) (w := w) (Z := fun b => b < w.heap.size) (fun _ h => h) hG hl hr).mono fun e w' => ?_
  rintro ⟨v,β',Z',rfl,he,hv⟩
  rw [vr_bool hv]
  exact ⟨rfl,⟨he.os,he.tape,he.output,he.size,fun k hk => he.block k hk fun f => f⟩⟩
end Go.V
namespace Go.V
open Go.RowKit
def Rd {H : Type} (enc : TypeId × Value -> H) (P : Program) (w : World) (spare : Nat -> Bool) (held : Bool) (t : TypeId) (d : DataW H) : Prop :=
  ∃ fuel cs ps,DataW.trod enc P w 0 spare held fuel t cs = some (d,ps)
section
variable {H : Type} {enc : TypeId × Value -> H} {P : Program} {w : World} {spare : Nat -> Bool} {held : Bool} {t e : TypeId} {d : DataW H}
theorem Rd.of {v : Value} {ps : List MemPlace} (h : DataW.Trod enc P w 0 spare held t v d ps) : Rd enc P w spare held t d := by
  obtain ⟨fuel,h⟩ := h
  exact ⟨fuel,_,_,h⟩
theorem Rd.int {k : IntKind} (h : Rd enc P w spare held t d) (ht : P.underlying t = some (.int k)) : ∃ n : Int,d = .lit (.int k n) /\ (Lit.int k n).wf = true := by
  obtain ⟨fuel,cs,ps,h⟩ := h
  cases fuel with
  | zero => simp [DataW.trod] at h
  | succ fuel =>
    unfold DataW.trod at h
    rw [ht] at h
    rcases cs with _ | ⟨v,_ | ⟨v2,cs⟩⟩ <;> try (simp at h; done)
    cases v <;> simp at h
    obtain ⟨⟨rfl,hw⟩,rfl,_⟩ := h
    exact ⟨_,rfl,hw⟩
theorem Rd.bool (h : Rd enc P w spare held t d) (ht : P.underlying t = some .bool) : ∃ b : Bool,d = .lit (.bool b) := by
  obtain ⟨fuel,cs,ps,h⟩ := h
  cases fuel with
  | zero => simp [DataW.trod] at h
  | succ fuel =>
    unfold DataW.trod at h
    rw [ht] at h
    rcases cs with _ | ⟨v,_ | ⟨v2,cs⟩⟩ <;> try (simp at h; done)
    cases v <;> simp at h
    obtain ⟨rfl,_⟩ := h
    exact ⟨_,rfl⟩
theorem Rd.string (h : Rd enc P w spare held t d) (ht : P.underlying t = some .string) : ∃ l : List UInt8,d = .lit (.string l) := by
  obtain ⟨fuel,cs,ps,h⟩ := h
  cases fuel with
  | zero => simp [DataW.trod] at h
  | succ fuel =>
    unfold DataW.trod at h
    rw [ht] at h
    rcases cs with _ | ⟨v,_ | ⟨v2,cs⟩⟩ <;> try (simp at h; done)
    cases v <;> simp at h
    obtain ⟨_,rfl,_⟩ := h
    exact ⟨_,rfl⟩
theorem Rd.slice (h : Rd enc P w spare held t d) (ht : P.underlying t = some (.slice e)) : d = .nil \/ ∃ elems rest,d = .slice elems rest /\ ∀ x ∈ elems,Rd enc P w spare held e x := by
  obtain ⟨fuel,cs,ps,h⟩ := h
  cases fuel with
  | zero => simp [DataW.trod] at h
  | succ fuel =>
    unfold DataW.trod at h
    rw [ht] at h
    rcases cs with _ | ⟨v,_ | ⟨v2,cs⟩⟩ <;> try (simp at h; done)
    cases v <;> try (simp at h; done)
    rename_i a len cap
    cases a with
    | none =>
      cases len <;> cases cap <;> simp at h
      obtain ⟨rfl,rfl⟩ := h
      exact .inl rfl
    | some a =>
      simp only at h
      split at h
      · simp only [Option.bind_eq_some_iff,Option.map_eq_some_iff] at h
        obtain ⟨elems,hm,rest,hr,hd⟩ := h
        cases hd
        refine .inr ⟨_,_,rfl,fun x hx => ?_⟩
        obtain ⟨y,hy,rfl⟩ := List.mem_map.1 hx
        have hlen : elems.length = len := by simpa using mapM_some_length hm
        have hget := mapM_some_get hm
        obtain ⟨i,hi⟩ := List.getElem?_of_mem hy
        have hil : i < len := by have := lt_get hi; omega
        have h1 := hget i i (by simp [hil])
        rw [hi] at h1
        obtain ⟨cs,_,hx⟩ := Option.bind_eq_some_iff.1 h1
        exact ⟨fuel,cs,y.2,hx⟩
      · cases h
theorem mapM_all2 {α β : Type} {f : α -> Option β} : ∀ {l : List α} {m : List β},l.mapM f = some m -> All2 (fun a b => f a = some b) l m
  | [],m,h => by simp at h; subst h; exact .nil
  | a :: l,m,h => by
    rw [List.mapM_cons] at h
    cases h1 : f a with
    | none => rw [h1] at h; simp at h
    | some b =>
      rw [h1] at h
      cases h2 : l.mapM f with
      | none => rw [h2] at h; simp at h
      | some ys => rw [h2] at h; simp at h; subst h; exact .cons h1 (mapM_all2 h2)
theorem All2.mapR {α β γ : Type} {R : α -> γ -> Prop} {f : β -> γ} : ∀ {l : List α} {m : List β},All2 (fun a b => R a (f b)) l m -> All2 R l (m.map f)
  | _,_, .nil => .nil
  | _,_, .cons a t => .cons a t.mapR
theorem Rd.struct {fs : Array Field} (h : Rd enc P w spare held t d) (ht : P.underlying t = some (.struct fs)) : ∃ parts,d = .agg parts /\ All2 (fun (f : Field) x => Rd enc P w spare held f.type x) fs.toList parts := by
  obtain ⟨fuel,cs,ps,h⟩ := h
  cases fuel with
  | zero => simp [DataW.trod] at h
  | succ fuel =>
    unfold DataW.trod at h
    rw [ht] at h
    simp only at h
    split at h
    · obtain ⟨xs,hx,hd⟩ := Option.map_eq_some_iff.1 h
      cases hd
      refine ⟨_,rfl,?_⟩
      exact ((mapM_all2 hx).mono fun f x hfx => (⟨fuel,_,_,hfx⟩ : Rd enc P w spare held f.type x.1)).mapR
    · cases h
theorem Rd.array {n : Nat} (h : Rd enc P w spare held t d) (ht : P.underlying t = some (.array n e)) : ∃ parts,d = .agg parts /\ parts.length = n /\ ∀ x ∈ parts,Rd enc P w spare held e x := by
  obtain ⟨fuel,cs,ps,h⟩ := h
  cases fuel with
  | zero => simp [DataW.trod] at h
  | succ fuel =>
    unfold DataW.trod at h
    rw [ht] at h
    simp only at h
    split at h
    · obtain ⟨xs,hx,hd⟩ := Option.map_eq_some_iff.1 h
      cases hd
      have h1 := mapM_all2 hx
      refine ⟨_,rfl,by have := h1.len; simp at this; simp [<- this],fun x hx' => ?_⟩
      obtain ⟨y,hy,rfl⟩ := List.mem_map.1 hx'
      have key : ∀ {l : List Nat} {m : List (DataW H × List MemPlace)},All2 (fun i x => DataW.trod enc P w 0 spare held fuel e ((cs.drop (i * P.cellsOf e)).take (P.cellsOf e)) = some x) l m -> ∀ y ∈ m,Rd enc P w spare held e y.1 := by
        intro l m h
        induction h with
        | nil => intro y hy; cases hy
        | cons a t ih =>
          intro y hy
          rcases List.mem_cons.1 hy with rfl | hy
          · exact ⟨fuel,_,_,a⟩
          · exact ih y hy
      exact key h1 y hy
    · cases h
end
end Go.V
namespace Go.Proofs.Ytapfahlbkhgdpaa
end Go.Proofs.Ytapfahlbkhgdpaa
namespace Go.Proofs.Ytapfahlbkhgdpaa
open Go.V Go Go.RowKit
variable {H : Type} {enc : TypeId × Value -> H} {w : World} {spare : Nat -> Bool} {held : Bool} {d : DataW H}
end Go.Proofs.Ytapfahlbkhgdpaa
namespace Go.V
variable {N : Nat} {S st : St} {H : List Ent}
theorem Has.enterRw {s0 : St} (h : Has N S s0 H) : Has N (enterSt .rw s0) (enterSt .rw s0) H :=
  ⟨Ex.refl _ _,Nat.le_trans h.hN h.ex.len,by show s0.ro <= N; rw [h.ex.ro]; exact h.hro,fun i e hi => ⟨e.loc (st := s0) (st' := enterSt .rw s0) (fun k _ => rfl) (h.ok i e hi).1,(h.ok i e hi).2⟩,h.dis⟩
theorem leaveD_rw {kn : Bool} {s0 st : St} {d d' : D} (hd : freezeD st s0.bs.length kn 16 d = some d') : leaveD .rw kn s0 st d = some (d',⟨st.bs.take s0.bs.length,s0.flr,s0.ro⟩) := by
  simp only [leaveD,hd]
theorem Has.leaveRw {s0 S2 st2 : St} {H2 : List Ent} (h : Has N S s0 H) (hS : S2.bs = s0.bs) (h2 : Has N S2 st2 H2) (hk : ∀ (i : Nat) e,H2[i]? = some e -> ∃ e',H[i]? = some e' /\ ∀ k,e.K k -> e'.K k) : Has N S ⟨st2.bs.take s0.bs.length,s0.flr,s0.ro⟩ H2 := by
  have hL : s0.bs.length <= st2.bs.length := by have := h2.ex.len; rw [hS] at this; exact this
  have hSL := h.ex.len
  have hNL := h.hN
  refine ⟨⟨fun k hk' => ?_,?_,h.ex.flr,h.ex.ro⟩,h.hN,h.hro,fun i e hi => ?_,h2.dis⟩
  · show (st2.bs.take s0.bs.length)[k]? = _
    rw [List.getElem?_take,if_pos (by omega),h2.ex.low k hk',hS]; exact h.ex.low k hk'
  · show _ <= (st2.bs.take s0.bs.length).length
    rw [List.length_take]; omega
  · obtain ⟨e',he',hkk⟩ := hk i e hi
    have h3 := (h.ok i e' he').2
    refine ⟨e.loc (fun k hk' => ?_) (h2.ok i e hi).1,fun k hk' => ⟨(h3 k (hkk k hk')).1,?_⟩⟩
    · show (st2.bs.take s0.bs.length)[k]? = _
      rw [List.getElem?_take,if_pos (h3 k (hkk k hk')).2]
    · show k < (st2.bs.take s0.bs.length).length
      rw [List.length_take]
      have := (h3 k (hkk k hk')).2
      omega
theorem Has.leaveRw1 {s0 S2 st2 : St} {k : Nat} {b b' : Box} (h : Has N S s0 (.box k b :: H)) (hS : S2.bs = s0.bs) (h2 : Has N S2 st2 (.box k b' :: H)) : Has N S ⟨st2.bs.take s0.bs.length,s0.flr,s0.ro⟩ (.box k b' :: H) := by
  refine h.leaveRw hS h2 fun i e hi => ?_
  cases i with
  | zero => simp only [List.getElem?_cons_zero,Option.some.injEq] at hi; subst hi; exact ⟨_,rfl,fun k hk => hk⟩
  | succ i => exact ⟨e,hi,fun k hk => hk⟩
theorem Has.append5 {P : Pv} {j : Nat} {x y x' : D} {s : Nat} {es ys : List (List D)} {st' : St} (hH : Has N S st H) (hj : H[j]? = some (.lst x s es)) (hy : Rows st s y ys) {t1 t2 e : TypeId} {td : TypeDesc} {inf : TypeInfo} {z : List D}
    (h1 : P.und t1 = some (.slice e)) (h2 : P.und t2 = some td) (h3 : isIntT td = false) (h4 : P.info e = some inf) (h5 : zeroC P e = some z)
    (q1 : builtinD P .append [t1,t2] [x,y] st = some (x',st')) : ∀ k,x'.ref = k + 1 -> x.ref = k + 1 \/ S.bs.length <= k := by
  have hl := hH.ex.len
  have hrow := hy.row
  have hyl : ∀ e ∈ ys,e.length = s := fun e he => by
    obtain ⟨i,hi⟩ := List.getElem?_of_mem he
    exact hy.elen i e hi
  have hown := hH.own hj
  simp only [builtinD,appendD,h1,h2,h3,Bool.false_eq_true,if_false,h4,h5,hrow,Option.bind_some] at q1
  split at q1
  · cases q1
  · cases hown with
    | nul =>
      simp only at q1
      split at q1
      · cases q1; exact fun k hk => .inl hk
      · split at q1
        · cases q1
          exact fun k hk => .inr (by simp only [D.ref] at hk; omega)
        · cases q1
    | win k ver off es c hm hl hc he =>
      simp only [St.mem_of hm] at q1
      split at q1
      · cases q1
      · split at q1
        · cases q1; exact fun k hk => .inl hk
        · split at q1
          · cases q1
            exact fun n hn => .inl (by simp only [D.ref] at hn ⊢; exact hn)
          · cases q1
theorem EvO.happend5 {P : Pv} {ops : Array Oper} {rest : List Oper} {fr : Fr} {Q : Fr -> St -> Prop} {ty : TypeId} {pp : String} {a : Array Edge} {g : Option (Nat × Bool)} {dst : Nat} {j : Nat} {x y : D} {s : Nat} {es ys : List (List D)} {t1 t2 e : TypeId} {td : TypeDesc} {inf : TypeInfo} {z : List D} {xo yo : Operand} {fr' : D -> Fr} (hH : Has N S st H) (hg : wantD ops fr ⟨some dst, .call ⟨.builtin .append, #[xo,yo], #[t1,t2]⟩,ty,pp,a,g⟩ = some true)
    (hx : fr.ev xo = x) (hy : fr.ev yo = y) (hj : H[j]? = some (.lst x s es)) (hys : Rows st s y ys)
    (h1 : P.und t1 = some (.slice e)) (h2 : P.und t2 = some td) (h3 : isIntT td = false) (h4 : P.info e = some inf) (h5 : zeroC P e = some z) (h6 : inf.size = s) (h7 : z.length = s) (h8 : 0 < inf.bytes /\ inf.bytes <= 1024)
    (hp : ∀ x',fr.put dst x' = fr' x') (hb : es.length + ys.length <= 1073741824) (hw : S.flr <= N \/ refs ys.flatten = 0) (h0 : ∀ k,x.ref = k + 1 -> S.bs.length <= k)
    (h : ∀ x' st',(∀ k,x'.ref = k + 1 -> S.bs.length <= k) -> Has N S st' (H.set j (.lst x' s (es ++ ys))) -> EvO P ops rest (fr' x') st' Q) :
    EvO P ops (⟨some dst, .call ⟨.builtin .append, #[xo,yo], #[t1,t2]⟩,ty,pp,a,g⟩ :: rest) fr st Q := by
  obtain ⟨x',st',q1,q2,q3⟩ := hH.append hj hys h1 h2 h3 h4 h5 h6 h7 h8 hb hw
  have h5' := hH.append5 hj hys h1 h2 h3 h4 h5 q1
  refine EvO.go hg rfl (d := x') (st1 := st') ?_ (hp _) (h x' st' (fun k hk => ?_) q2)
  · simp only [opD,List.map_cons,List.map_nil,hx,hy]
    exact q1
  · rcases h5' k hk with h | h
    · exact h0 k h
    · exact h
def frzC : D -> D
  | .nul => .sl []
  | d => d
def tellC (d : D) : Bool := match d with | .nul => true | d => plainC d
theorem tell_pure {st : St} {N n : Nat} {d : D} (h : tellC d = true) : pureD st N (n + 1) d = some (frzC d) := by
  cases d <;> simp [tellC,plainC] at h <;> rfl
theorem mapO_tell {st : St} {N n : Nat} : ∀ {l : List D},(∀ d ∈ l,tellC d = true) -> mapO (pureD st N (n + 1)) l = some (l.map frzC)
  | [],_ => rfl
  | d :: l,h => by simp only [mapO,tell_pure (h d (List.mem_cons_self ..)),mapO_tell (fun d hd => h d (List.mem_cons_of_mem _ hd)),List.map_cons]
theorem Has.freezeT {L j : Nat} {x : D} {s : Nat} {es : List (List D)} (hH : Has N S st H) (hj : H[j]? = some (.lst x s es)) (hx : ∀ k,x.ref = k + 1 -> L <= k) (hp : ∀ e ∈ es, ∀ d ∈ e,tellC d = true) {n : Nat} (hn : 3 <= n) : freezeD st L false n x = some (.sl ((es.map (·.map frzC)).map (elD s))) := by
  obtain ⟨n,rfl⟩ : ∃ m,n = m + 3 := ⟨n - 3,by omega⟩
  have hown := hH.own hj
  cases hown with
  | nul => rfl
  | win k ver off es c hm hl hc he =>
    have hk := hx k (by simp only [D.ref])
    show (if k < L then some (D.win k ver off es.length s) else pureD st L (n + 2) (.win k ver off es.length s)) = _
    rw [if_neg (show ¬ k < L by omega),pureD]
    simp only [if_neg (show ¬ k < L by omega),St.mem_of hm,Option.bind_some]
    rw [if_pos hl,hc,mapO_tell (fun d hd => by
      obtain ⟨e,he',hd'⟩ := List.mem_flatten.1 hd
      exact hp e he' d hd')]
    have h1 : (es.map (·.map frzC)).flatten = es.flatten.map frzC := by rw [List.map_flatten]
    have h2 : (es.map (·.map frzC)).length = es.length := List.length_map _
    have h3 : ∀ e ∈ es.map (·.map frzC),e.length = s := by
      intro e he'
      obtain ⟨e0,h0,rfl⟩ := List.mem_map.1 he'
      rw [List.length_map]; exact he e0 h0
    simp only [Option.map_some]
    rw [<- h1, <- h2,chunk_flat h3]
theorem EvO.sidx {P : Pv} {ops : Array Oper} {rest : List Oper} {fr fr' : Fr} {Q : Fr -> St -> Prop} {ty : TypeId} {pp : String} {a : Array Edge} {g : Option (Nat × Bool)} {dst : Nat} {t : TypeId} {xo io : Operand} {b : List UInt8} {kk : IntKind} {i : Nat} {c : UInt8} (hg : wantD ops fr ⟨some dst, .index t xo io,ty,pp,a,g⟩ = some true) (hx : fr.ev xo = .str b) (hi : fr.ev io = .int kk (i : Nat)) (ht : P.und t = some .string) (hc : b[i]? = some c) (hp : fr.put dst (.int .u8 (c.toNat : Nat)) = fr')
    (h : EvO P ops rest fr' st Q) : EvO P ops (⟨some dst, .index t xo io,ty,pp,a,g⟩ :: rest) fr st Q := by
  refine EvO.go hg rfl (d := .int .u8 (c.toNat : Nat)) (st1 := st) ?_ hp h
  simp only [opD,hx,hi,indexD,ht]
  rw [if_pos (by omega),Int.toNat_natCast,hc]; rfl
end Go.V
namespace Go.Proofs.Ytapfahlbkhgdpaa
open Go.V Go
def moreS (c : Nat) : Int × Nat × Nat :=
 if c < 128 then (0,0,0) else if c < 194 then (-1,0,0) else if c < 224 then (1,128,191) else if c = 224 then (2,160,191) else if c = 237 then (2,128,159)
 else if c < 240 then (2,128,191) else if c = 240 then (3,144,191) else if c < 244 then (3,128,191) else if c = 244 then (3,128,143) else (-1,0,0)
theorem more_ev (c : Nat) (st : St) : Ev pv 40 [.int .u8 c] st (.tup [.int .i64 (moreS c).1, .int .u8 (moreS c).2.1, .int .u8 (moreS c).2.2]) st := by
 refine Ev.mk1 rfl fi40 rfl rfl rfl ?_;refine zE ?_;refine zR ?_;refine EvC.seq (EvC.block ?_);refine zR ?_;(repeat refine qq ?_);refine qc (fun h1 => ?_) (fun h1 => ?_) <;> try simp only [cs] at h1
 ·refine zR ?_;refine EvC.ret ⟨rx,_,rfl,leave_same (by simp) (by simp [enterSt]) ?_⟩;rw [show moreS c = (0,0,0) by unfold moreS; rw [if_pos (by omega)]]; rfl
 refine zR ?_;(repeat refine qq ?_);refine qc (fun h2 => ?_) (fun h2 => ?_) <;> try simp only [cs] at h2
 ·refine zR ?_;refine EvC.ret ⟨rx,_,rfl,leave_same (by simp) (by simp [enterSt]) ?_⟩;rw [show moreS c = (-1,0,0) by unfold moreS; rw [if_neg (by omega),if_pos (by omega)]]; rfl
 refine zR ?_;(repeat refine qq ?_);refine qc (fun h3 => ?_) (fun h3 => ?_) <;> try simp only [cs] at h3
 ·refine zR ?_;refine EvC.ret ⟨rx,_,rfl,leave_same (by simp) (by simp [enterSt]) ?_⟩;rw [show moreS c = (1,128,191) by unfold moreS; rw [if_neg (by omega),if_neg (by omega),if_pos (by omega)]]; rfl
 refine zR ?_;(repeat refine qq ?_);refine qc (fun h4 => ?_) (fun h4 => ?_) <;> try simp only [cs] at h4
 ·refine zR ?_;refine EvC.ret ⟨rx,_,rfl,leave_same (by simp) (by simp [enterSt]) ?_⟩;rw [show moreS c = (2,160,191) by unfold moreS; rw [if_neg (by omega),if_neg (by omega),if_neg (by omega),if_pos (by omega)]]; rfl
 refine zR ?_;(repeat refine qq ?_);refine qc (fun h5 => ?_) (fun h5 => ?_) <;> try simp only [cs] at h5
 ·refine zR ?_;refine EvC.ret ⟨rx,_,rfl,leave_same (by simp) (by simp [enterSt]) ?_⟩;rw [show moreS c = (2,128,159) by unfold moreS; rw [if_neg (by omega),if_neg (by omega),if_neg (by omega),if_neg (by omega),if_pos (by omega)]]; rfl
 refine zR ?_;(repeat refine qq ?_);refine qc (fun h6 => ?_) (fun h6 => ?_) <;> try simp only [cs] at h6
 ·refine zR ?_;refine EvC.ret ⟨rx,_,rfl,leave_same (by simp) (by simp [enterSt]) ?_⟩;rw [show moreS c = (2,128,191) by unfold moreS; rw [if_neg (by omega),if_neg (by omega),if_neg (by omega),if_neg (by omega),if_neg (by omega),if_pos (by omega)]]; rfl
 refine zR ?_;(repeat refine qq ?_);refine qc (fun h7 => ?_) (fun h7 => ?_) <;> try simp only [cs] at h7
 ·refine zR ?_;refine EvC.ret ⟨rx,_,rfl,leave_same (by simp) (by simp [enterSt]) ?_⟩;rw [show moreS c = (3,144,191) by unfold moreS; rw [if_neg (by omega),if_neg (by omega),if_neg (by omega),if_neg (by omega),if_neg (by omega),if_neg (by omega),if_pos (by omega)]]; rfl
 refine zR ?_;(repeat refine qq ?_);refine qc (fun h8 => ?_) (fun h8 => ?_) <;> try simp only [cs] at h8
 ·refine zR ?_;refine EvC.ret ⟨rx,_,rfl,leave_same (by simp) (by simp [enterSt]) ?_⟩;rw [show moreS c = (3,128,191) by unfold moreS; rw [if_neg (by omega),if_neg (by omega),if_neg (by omega),if_neg (by omega),if_neg (by omega),if_neg (by omega),if_neg (by omega),if_pos (by omega)]]; rfl
 refine zR ?_;(repeat refine qq ?_);refine qc (fun h9 => ?_) (fun h9 => ?_) <;> try simp only [cs] at h9
 ·refine zR ?_;refine EvC.ret ⟨rx,_,rfl,leave_same (by simp) (by simp [enterSt]) ?_⟩;rw [show moreS c = (3,128,143) by unfold moreS; rw [if_neg (by omega),if_neg (by omega),if_neg (by omega),if_neg (by omega),if_neg (by omega),if_neg (by omega),if_neg (by omega),if_neg (by omega),if_pos (by omega)]]; rfl
 refine EvC.skip ?_;refine zR ?_;refine EvC.ret ⟨rx,_,rfl,leave_same (by simp) (by simp [enterSt]) ?_⟩;rw [show moreS c = (-1,0,0) by unfold moreS; rw [if_neg (by omega),if_neg (by omega),if_neg (by omega),if_neg (by omega),if_neg (by omega),if_neg (by omega),if_neg (by omega),if_neg (by omega),if_neg (by omega)]]; rfl
def scanS : (left n r lo hi : Nat) -> List UInt8 -> Nat × Nat × Bool
 | 0,n,r,_,_,_ => (r,n,false)
 | left + 1,n,r,lo,hi, [] => (0,0,true)
 | left + 1,n,r,lo,hi,x :: xs => if x.toNat < lo \/ hi < x.toNat then (0,0,false) else scanS left n (r * 64 + x.toNat % 64) 128 191 xs
def firstS : List UInt8 -> Nat × Nat × Bool
 | [] => (0,0,false)
 | c :: xs => if (moreS c.toNat).1 < 0 then (0,0,false)
   else scanS (moreS c.toNat).1.toNat ((moreS c.toNat).1.toNat + 1) (if (moreS c.toNat).1 > 0 then c.toNat % (64 / 2 ^ (moreS c.toNat).1.toNat) else c.toNat) (moreS c.toNat).2.1 (moreS c.toNat).2.2 xs
theorem moreS_cases (c : Nat) : (moreS c).1 = -1 \/ (moreS c).1 = 0 \/ (moreS c).1 = 1 \/ (moreS c).1 = 2 \/ (moreS c).1 = 3 := by
 unfold moreS
 repeat' split
 all_goals simp
theorem and_low {w a j : Nat} (ha : a < 2 ^ w) (hj : 2 ^ j - 1 < 2 ^ w) : (BitVec.ofInt w (a : Int) &&& BitVec.ofInt w ((2 ^ j - 1 : Nat) : Int)).toNat = a % 2 ^ j := by
 rw [bv_and ha hj,Nat.and_two_pow_sub_one_eq_mod]
theorem byteCells_len (b : List UInt8) : (V.byteCells b).length = b.length := by simp [V.byteCells]
theorem byteCells_get {b : List UInt8} {i : Nat} {y : UInt8} (h : b[i]? = some y) : (V.byteCells b)[i]? = some [.int .u8 (y.toNat : Nat)] := by
 simp [V.byteCells,h]
theorem u8_lt (y : UInt8) : y.toNat < 256 := y.toNat_lt
theorem six0 {r y : Nat} (hr : r < 33554432) (hy : y < 256) : wrapD .i32 ((BitVec.ofInt 32 (wrapD .i32 ((r : Int) * 2 ^ (min (Int.toNat 6) 32))) ||| BitVec.ofInt 32 (wrapD .i32 (wrapD .u8 ((BitVec.ofInt 8 (y : Int) &&& BitVec.ofInt 8 63).toNat : Nat)))).toNat : Nat) = ((r * 64 + y % 64 : Nat) : Int) := by
 have h1 : (BitVec.ofInt 8 (y : Int) &&& BitVec.ofInt 8 63).toNat = y % 64 := and_low (w := 8) (j := 6) hy (by decide);rw [h1]
 have h2 : ((r : Int) * 2 ^ (min (Int.toNat 6) 32)) = ((r * 64 : Nat) : Int) := by
  have : (2 : Int) ^ (min (Int.toNat 6) 32) = 64 := by decide
  rw [this]; simp
 rw [h2,wrap_nat (k := .i32) (m := r * 64) (by simp only [maxN]; omega),wrap_nat (k := .u8) (m := y % 64) (by simp only [maxN]; omega),wrap_nat (k := .i32) (m := y % 64) (by simp only [maxN]; omega)];rw [bv_or (by omega) (by omega)]
 have h3 : (r * 64) ||| (y % 64) = r * 64 + y % 64 := by
  have := Nat.two_pow_add_eq_or_of_lt (i := 6) (b := y % 64) (by omega) r;have e : (2 : Nat) ^ 6 = 64 := by decide
  rw [e] at this;rw [Nat.mul_comm r 64,this]
 rw [h3,wrap_nat (k := .i32) (m := r * 64 + y % 64) (by simp only [maxN]; omega)]
theorem mask0 {c j : Nat} (hc : c < 256) (hj : j <= 8) {m : Int} (hm : m = ((2 ^ j - 1 : Nat) : Int)) : wrapD .i32 ((BitVec.ofInt 32 (wrapD .i32 (c : Nat)) &&& BitVec.ofInt 32 m).toNat : Nat) = ((c % 2 ^ j : Nat) : Int) := by
 have h1 : 2 ^ j <= 2 ^ 8 := Nat.pow_le_pow_right (by omega) hj;rw [hm,wrap_nat (k := .i32) (m := c) (by simp only [maxN]; omega),and_low (w := 32) (by omega) (by omega)];have : c % 2 ^ j <= c := Nat.mod_le _ _;rw [wrap_nat (k := .i32) (by simp only [maxN]; omega)]
theorem mask {c j : Nat} (hc : c < 256) (hj : j <= 8) {m : Int} (hm : m = ((2 ^ j - 1 : Nat) : Int)) : wrapD .i32 ((BitVec.ofInt IntKind.i32.bits (wrapD .i32 (c : Nat)) &&& BitVec.ofInt IntKind.i32.bits m).toNat : Nat) = ((c % 2 ^ j : Nat) : Int) := mask0 hc hj hm
theorem six {r y : Nat} (hr : r < 33554432) (hy : y < 256) : wrapD .i32 ((BitVec.ofInt IntKind.i32.bits (wrapD .i32 ((r : Int) * 2 ^ (min (Int.toNat 6) IntKind.i32.bits))) ||| BitVec.ofInt IntKind.i32.bits (wrapD .i32 (wrapD .u8 ((BitVec.ofInt IntKind.u8.bits (y : Int) &&& BitVec.ofInt IntKind.u8.bits 63).toNat : Nat)))).toNat : Nat) = ((r * 64 + y % 64 : Nat) : Int) := six0 hr hy
theorem first_ev {st : St} {x : D} {b : List UInt8} (hb : Bytes st x b) : Ev pv 26 [x] st (.tup [.int .i32 ((firstS b).1 : Nat), .int .i64 ((firstS b).2.1 : Nat), .bool (firstS b).2.2]) st := by
 refine Ev.mk1 rfl fi26 rfl rfl rfl ?_;refine zE ?_;have hb' := hb.enter .ro;(try refine qy ?_);(repeat refine qq ?_);(try generalize hK : SeqQ _ _ _ _ = K);refine EvC.reg ?_;(repeat (first | refine xT ?_ | refine xL ?_ | refine xN ?_ | refine xo ?_ | refine xp ?_));refine EvO.nil ?_;(try refine zF ?_);(try subst hK);(try refine qy ?_);(repeat refine qq ?_);(try generalize hK : SeqQ _ _ _ _ = K);refine EvC.reg ?_
 (first | refine xT ?_ | refine xL ?_ | refine xN ?_ | refine xo ?_ | refine xp ?_)
 refine EvO.len rfl rfl rfl hb' rfl ?_;(repeat (first | refine xT ?_ | refine xL ?_ | refine xN ?_ | refine xo ?_ | refine xp ?_));refine EvO.nil ?_;(try refine zF ?_);(try subst hK);(try refine qy ?_);(repeat refine qq ?_);refine qc (fun h1 => ?_) (fun h1 => ?_) <;> try simp only [cs] at h1
 ·(try refine qy ?_);(repeat refine qq ?_);(try generalize hK : SeqQ _ _ _ _ = K);refine EvC.reg ?_;(repeat (first | refine xT ?_ | refine xL ?_ | refine xN ?_ | refine xo ?_ | refine xp ?_));refine EvO.nil ?_;(try refine zF ?_);(try subst hK);(try refine qy ?_);refine EvC.ret ⟨rx,_,rfl,leave_same (by simp) (by simp [enterSt]) ?_⟩
  obtain rfl : b = [] := by cases b with | nil => rfl | cons c b => simp [V.byteCells] at h1; omega
  rfl
 refine EvC.skip ?_
 obtain ⟨c,xs,rfl⟩ : ∃ c xs,b = c :: xs := by cases b with | nil => simp [V.byteCells] at h1 | cons c b => exact ⟨c,b,rfl⟩
 obtain ⟨k,lo,hi,hm⟩ : ∃ k lo hi,moreS c.toNat = (k,lo,hi) := ⟨_,_,_,rfl⟩
 have hme := more_ev c.toNat (enterSt .ro st);rw [hm] at hme;have hk := moreS_cases c.toNat;rw [hm] at hk;have hc := u8_lt c;(try refine qy ?_);(repeat refine qq ?_);(try generalize hK : SeqQ _ _ _ _ = K);refine EvC.reg ?_
 (first | refine xT ?_ | refine xL ?_ | refine xN ?_ | refine xo ?_ | refine xp ?_)
 refine EvO.idxLoad rfl rfl rfl (fun _ => rfl) rfl rfl hb' rfl rfl (by omega) rfl rfl (fun p => ?_);refine EvO.callT rfl rfl rfl hme ?_;(repeat (first | refine xT ?_ | refine xL ?_ | refine xN ?_ | refine xo ?_ | refine xp ?_));refine EvO.nil ?_;(try refine zF ?_);(try subst hK);(try refine qy ?_);(repeat refine qq ?_);(try generalize hK : SeqQ _ _ _ _ = K);refine EvC.reg ?_;(repeat (first | refine xT ?_ | refine xL ?_ | refine xN ?_ | refine xo ?_ | refine xp ?_));refine EvO.nil ?_;(try refine zF ?_);(try subst hK);(try refine qy ?_);(repeat refine qq ?_);refine qc (fun h2 => ?_) (fun h2 => ?_) <;> try simp only [cs] at h2
 ·(try refine qy ?_);(repeat refine qq ?_);(try generalize hK : SeqQ _ _ _ _ = K);refine EvC.reg ?_;(repeat (first | refine xT ?_ | refine xL ?_ | refine xN ?_ | refine xo ?_ | refine xp ?_));refine EvO.nil ?_;(try refine zF ?_);(try subst hK);(try refine qy ?_);refine EvC.ret ⟨rx,_,rfl,leave_same (by simp) (by simp [enterSt]) ?_⟩;simp only [firstS,hm]; rw [if_pos h2]; rfl
 refine EvC.skip ?_;(try refine qy ?_);(repeat refine qq ?_);(try generalize hK : SeqQ _ _ _ _ = K);refine EvC.reg ?_
 (first | refine xT ?_ | refine xL ?_ | refine xN ?_ | refine xo ?_ | refine xp ?_)
 refine EvO.idxLoad rfl rfl rfl (fun _ => rfl) rfl rfl hb' rfl rfl (by omega) rfl rfl (fun p => ?_);(repeat (first | refine xT ?_ | refine xL ?_ | refine xN ?_ | refine xo ?_ | refine xp ?_));refine EvO.nil ?_;(try refine zF ?_);(try subst hK);(try refine qy ?_);(repeat refine qq ?_);(try generalize hK : SeqQ _ _ _ _ = K);refine EvC.reg ?_;(repeat (first | refine xT ?_ | refine xL ?_ | refine xN ?_ | refine xo ?_ | refine xp ?_));refine EvO.nil ?_;(try refine zF ?_);(try subst hK);(try refine qy ?_);generalize hK : SeqQ _ _ _ _ = K
 have H : ∀ (r kn : Nat) (m : List (Nat × D)),k = (kn : Int) -> r = (if k > 0 then c.toNat % (64 / 2 ^ k.toNat) else c.toNat) -> (r + 1) * 64 ^ kn <= 2097152 -> K .next ⟨9, [x, .tup [], .int .i32 r, .int .i64 0, .bool false, .int .i64 k, .int .u8 lo, .int .u8 hi, .tup []],m⟩ (enterSt .ro st) := by
  intro r kn m hkn hr hr2
  have hR : firstS (c :: xs) = scanS kn (kn + 1) r lo hi xs := by
   simp only [firstS,hm]; rw [if_neg h2,hr,hkn]; rfl
  subst hK;rw [hR];generalize hS : scanS kn (kn + 1) r lo hi xs = R at hR ⊢;subst hkn;(try refine qy ?_);(repeat refine qq ?_);(try generalize hK : SeqQ _ _ _ _ = K);refine EvC.reg ?_;(repeat (first | refine xT ?_ | refine xL ?_ | refine xN ?_ | refine xo ?_ | refine xp ?_));refine EvO.nil ?_;(try refine zF ?_);(try subst hK);(try refine qy ?_);refine EvC.block ?_;refine EvC.loop (fun j fr st' => ∃ (i r lo hi : Nat),fr.clean = ⟨9, [x, .tup [], .int .i32 r, .int .i64 0, .bool false, .int .i64 kn, .int .u8 lo, .int .u8 hi, .int .i64 (i : Nat)], []⟩ /\ st' = enterSt .ro st /\ 1 <= i /\ i + j = kn + 1 /\ scanS j (kn + 1) r lo hi (xs.drop (i - 1)) = R /\ (r + 1) * 64 ^ j <= 2097152) kn ⟨1,r,lo,hi,rfl,rfl,by omega,by omega,hS,hr2⟩ ?_;clear hr hr2 hS r hm hme m;rintro j fr st' ⟨i,r,lo,hi,hfr,rfl,hi1,hij,hS,hr2⟩;rw [hfr];(try refine qy ?_);(repeat refine qq ?_);(try generalize hK : SeqQ _ _ _ _ = K);refine EvC.reg ?_;(repeat (first | refine xT ?_ | refine xL ?_ | refine xN ?_ | refine xo ?_ | refine xp ?_));refine EvO.nil ?_;(try refine zF ?_);(try subst hK);(try refine qy ?_);(repeat refine qq ?_);refine qc (fun h4 => ?_) (fun h4 => ?_) <;> try simp only [cs] at h4
  ·refine EvC.skip ?_
   obtain ⟨j,rfl⟩ : ∃ j',j = j' + 1 := ⟨j - 1,by omega⟩
   refine EvC.seq (EvC.block ?_);(try refine qy ?_);(repeat refine qq ?_);(try generalize hK : SeqQ _ _ _ _ = K);refine EvC.reg ?_
   (first | refine xT ?_ | refine xL ?_ | refine xN ?_ | refine xo ?_ | refine xp ?_)
   (first | refine xT ?_ | refine xL ?_ | refine xN ?_ | refine xo ?_ | refine xp ?_)
   refine EvO.len rfl rfl rfl hb' rfl ?_;(repeat (first | refine xT ?_ | refine xL ?_ | refine xN ?_ | refine xo ?_ | refine xp ?_));refine EvO.nil ?_;(try refine zF ?_);(try subst hK);(try refine qy ?_)
   have hxi : (xs.drop (i - 1)) = [] \/ ∃ y ys,xs.drop (i - 1) = y :: ys := by
    cases xs.drop (i - 1) with
    | nil => exact .inl rfl
    | cons y ys => exact .inr ⟨y,ys,rfl⟩
   have hxl : (xs.drop (i - 1)).length = xs.length - (i - 1) := List.length_drop ..;have hbl : (V.byteCells (c :: xs)).length = xs.length + 1 := by simp [V.byteCells]
   (try refine qy ?_);(repeat refine qq ?_);refine qc (fun h5 => ?_) (fun h5 => ?_) <;> try simp only [cs] at h5
   ·(try refine qy ?_);(repeat refine qq ?_);(try generalize hK : SeqQ _ _ _ _ = K);refine EvC.reg ?_;(repeat (first | refine xT ?_ | refine xL ?_ | refine xN ?_ | refine xo ?_ | refine xp ?_));refine EvO.nil ?_;(try refine zF ?_);(try subst hK);(try refine qy ?_);refine EvC.ret ⟨rx,_,rfl,leave_same (by simp) (by simp [enterSt]) ?_⟩
    rcases hxi with hxi | ⟨y,ys,hxi⟩
    ·rw [hxi] at hS; simp only [scanS] at hS; subst hS; rfl
    ·rw [hxi] at hxl; simp only [List.length_cons] at hxl; omega
   refine EvC.skip ?_
   rcases hxi with hxi | ⟨y,ys,hxi⟩
   ·rw [hxi] at hxl; simp only [List.length_nil] at hxl; omega
   have hy : (c :: xs)[i]? = some y := by
    obtain ⟨i,rfl⟩ : ∃ i',i = i' + 1 := ⟨i - 1,by omega⟩
    have := congrArg (fun l => l[0]?) hxi
    simpa using this
   have hys : xs.drop (i + 1 - 1) = ys := by
    have := congrArg (fun l => l.drop 1) hxi;simp only [List.drop_drop,List.drop_succ_cons,List.drop_zero] at this;rw [<- this]; congr 1; omega
   have hyc := byteCells_get hy;have hyb := u8_lt y;rw [hxi] at hS;simp only [scanS] at hS;(try refine qy ?_);(repeat refine qq ?_);(try generalize hK : SeqQ _ _ _ _ = K);refine EvC.reg ?_
   (first | refine xT ?_ | refine xL ?_ | refine xN ?_ | refine xo ?_ | refine xp ?_)
   (first | refine xT ?_ | refine xL ?_ | refine xN ?_ | refine xo ?_ | refine xp ?_)
   refine EvO.idxLoad rfl rfl rfl (fun _ => rfl) rfl rfl hb' rfl rfl (by omega) hyc rfl (fun p => ?_)
   (first | refine xT ?_ | refine xL ?_ | refine xN ?_ | refine xo ?_ | refine xp ?_)
   (first | refine xT ?_ | refine xL ?_ | refine xN ?_ | refine xo ?_ | refine xp ?_)
   (first | refine xT ?_ | refine xL ?_ | refine xN ?_ | refine xo ?_ | refine xp ?_)
   by_cases hlo : (y.toNat : Int) < (lo : Int)
   ·rw [decide_eq_true hlo];(repeat (first | refine xT ?_ | refine xL ?_ | refine xN ?_ | refine xo ?_ | refine xp ?_));refine EvO.nil ?_;(try refine zF ?_);(try subst hK);(try refine qy ?_);refine EvC.cond (v := true) rfl (fun _ => ?_) (fun h => by cases h);(try refine qy ?_);(repeat refine qq ?_);(try generalize hK : SeqQ _ _ _ _ = K);refine EvC.reg ?_;(repeat (first | refine xT ?_ | refine xL ?_ | refine xN ?_ | refine xo ?_ | refine xp ?_));refine EvO.nil ?_;(try refine zF ?_);(try subst hK);(try refine qy ?_);refine EvC.ret ⟨rx,_,rfl,leave_same (by simp) (by simp [enterSt]) ?_⟩;rw [if_pos (.inl (by omega))] at hS;subst hS; rfl
   rw [decide_eq_false hlo]
   (first | refine xT ?_ | refine xL ?_ | refine xN ?_ | refine xo ?_ | refine xp ?_)
   (first | refine xT ?_ | refine xL ?_ | refine xN ?_ | refine xo ?_ | refine xp ?_)
   refine EvO.idxLoad rfl rfl rfl (fun _ => rfl) rfl rfl hb' rfl rfl (by omega) hyc rfl (fun p => ?_);(repeat (first | refine xT ?_ | refine xL ?_ | refine xN ?_ | refine xo ?_ | refine xp ?_));refine EvO.nil ?_;(try refine zF ?_);(try subst hK);(try refine qy ?_);(repeat refine qq ?_);refine qc (fun h6 => ?_) (fun h6 => ?_) <;> try simp only [cs] at h6
   ·(try refine qy ?_);(repeat refine qq ?_);(try generalize hK : SeqQ _ _ _ _ = K);refine EvC.reg ?_;(repeat (first | refine xT ?_ | refine xL ?_ | refine xN ?_ | refine xo ?_ | refine xp ?_));refine EvO.nil ?_;(try refine zF ?_);(try subst hK);(try refine qy ?_);refine EvC.ret ⟨rx,_,rfl,leave_same (by simp) (by simp [enterSt]) ?_⟩;rw [if_pos (.inr (by omega))] at hS;subst hS; rfl
   refine EvC.skip ?_;rw [if_neg (by omega)] at hS;(try refine qy ?_);(repeat refine qq ?_);(try generalize hK : SeqQ _ _ _ _ = K);refine EvC.reg ?_
   (first | refine xT ?_ | refine xL ?_ | refine xN ?_ | refine xo ?_ | refine xp ?_)
   (first | refine xT ?_ | refine xL ?_ | refine xN ?_ | refine xo ?_ | refine xp ?_)
   (first | refine xT ?_ | refine xL ?_ | refine xN ?_ | refine xo ?_ | refine xp ?_)
   (first | refine xT ?_ | refine xL ?_ | refine xN ?_ | refine xo ?_ | refine xp ?_)
   refine EvO.idxLoad rfl rfl rfl (fun _ => rfl) rfl rfl hb' rfl rfl (by omega) hyc rfl (fun p => ?_);(repeat (first | refine xT ?_ | refine xL ?_ | refine xN ?_ | refine xo ?_ | refine xp ?_));refine EvO.nil ?_;(try refine zF ?_);(try subst hK);(try refine qy ?_);have hr3 : r + 1 <= (r + 1) * 64 ^ (j + 1) := Nat.le_mul_of_pos_right _ (Nat.pow_pos (by omega));rw [six (by omega) hyb];(try refine qy ?_);(repeat refine qq ?_);(try generalize hK : SeqQ _ _ _ _ = K);refine EvC.reg ?_;(repeat (first | refine xT ?_ | refine xL ?_ | refine xN ?_ | refine xo ?_ | refine xp ?_));refine EvO.nil ?_;(try refine zF ?_);(try subst hK);(try refine qy ?_);(repeat refine qq ?_);(try generalize hK : SeqQ _ _ _ _ = K);refine EvC.reg ?_;(repeat (first | refine xT ?_ | refine xL ?_ | refine xN ?_ | refine xo ?_ | refine xp ?_));refine EvO.nil ?_;(try refine zF ?_);(try subst hK);(try refine qy ?_);rw [wrap_i64 (by omega) (by omega)];refine ⟨j,by omega,i + 1,_,_,_,rfl,rfl,by omega,by omega,by rw [hys]; exact hS,?_⟩;have e1 : (r * 64 + y.toNat % 64 + 1) <= (r + 1) * 64 := by omega
   have e2 := Nat.mul_le_mul_right (64 ^ j) e1;have e3 : 64 * 64 ^ j = 64 ^ (j + 1) := by rw [Nat.pow_succ,Nat.mul_comm]
   rw [Nat.mul_assoc,e3] at e2;omega
  ·refine EvC.exit ?_;have : j = 0 := by omega
   subst this;simp only [scanS] at hS;subst hS;(try refine qy ?_);(repeat refine qq ?_);(try generalize hK : SeqQ _ _ _ _ = K);refine EvC.reg ?_;(repeat (first | refine xT ?_ | refine xL ?_ | refine xN ?_ | refine xo ?_ | refine xp ?_));refine EvO.nil ?_;(try refine zF ?_);(try subst hK);(try refine qy ?_);refine EvC.ret ⟨rx,_,rfl,leave_same (by simp) (by simp [enterSt]) ?_⟩;rw [wrap_i64 (by omega) (by omega)]; rfl
 rcases hk with hk | hk | hk | hk | hk
 ·omega
 ·subst hk;refine EvC.cond (v := false) rfl (fun h => by cases h) fun _ => EvC.skip ?_;rw [wrap_nat (by simp only [maxN]; omega)];exact H _ 0 _ rfl rfl (by omega)
 ·subst hk;refine EvC.cond (v := true) rfl (fun _ => ?_) (fun h => by cases h);refine EvC.reg ?_
  (first | refine xT ?_ | refine xL ?_ | refine xN ?_ | refine xo ?_ | refine xp ?_)
  refine EvO.idxLoad rfl rfl rfl (fun _ => rfl) rfl rfl hb' rfl rfl (by omega) rfl rfl (fun p => ?_);(repeat (first | refine xT ?_ | refine xL ?_ | refine xN ?_ | refine xo ?_ | refine xp ?_));refine EvO.nil ?_;(try refine zF ?_);rw [mask (j := 5) hc (by omega)]
  ·exact H _ 1 _ rfl rfl (by omega)
  ·decide
 ·subst hk;refine EvC.cond (v := true) rfl (fun _ => ?_) (fun h => by cases h);refine EvC.reg ?_
  (first | refine xT ?_ | refine xL ?_ | refine xN ?_ | refine xo ?_ | refine xp ?_)
  refine EvO.idxLoad rfl rfl rfl (fun _ => rfl) rfl rfl hb' rfl rfl (by omega) rfl rfl (fun p => ?_);(repeat (first | refine xT ?_ | refine xL ?_ | refine xN ?_ | refine xo ?_ | refine xp ?_));refine EvO.nil ?_;(try refine zF ?_);rw [mask (j := 4) hc (by omega)]
  ·exact H _ 2 _ rfl rfl (by omega)
  ·decide
 ·subst hk;refine EvC.cond (v := true) rfl (fun _ => ?_) (fun h => by cases h);refine EvC.reg ?_
  (first | refine xT ?_ | refine xL ?_ | refine xN ?_ | refine xo ?_ | refine xp ?_)
  refine EvO.idxLoad rfl rfl rfl (fun _ => rfl) rfl rfl hb' rfl rfl (by omega) rfl rfl (fun p => ?_);(repeat (first | refine xT ?_ | refine xL ?_ | refine xN ?_ | refine xo ?_ | refine xp ?_));refine EvO.nil ?_;(try refine zF ?_);rw [mask (j := 3) hc (by omega)]
  ·exact H _ 3 _ rfl rfl (by omega)
  ·decide
end Go.Proofs.Ytapfahlbkhgdpaa
namespace Go.Proofs.Ytapfahlbkhgdpaa
open Go.V Go
def oneS (b : List UInt8) : Nat × Nat := if (firstS b).2.1 = 0 then (65533,1) else ((firstS b).1,(firstS b).2.1)
def allF : Nat -> List UInt8 -> List (Nat × Nat)
 | 0,_ => []
 | _ + 1, [] => []
 | n + 1,b => oneS b :: allF n (b.drop (oneS b).2)
def allS (b : List UInt8) : List (Nat × Nat) := allF b.length b
theorem oneS_pos (b : List UInt8) : 1 <= (oneS b).2 := by
 unfold oneS; split
 ·simp
 ·simp only; omega
theorem allF_more : ∀ (n : Nat) (b : List UInt8),b.length <= n -> allF n b = allS b
 | 0, [],_ => rfl
 | 0,_ :: _,h => by simp at h
 | n + 1, [],_ => rfl
 | n + 1,c :: b,h => by
  have hp := oneS_pos (c :: b);have h1 : ((c :: b).drop (oneS (c :: b)).2).length <= b.length := by rw [List.length_drop]; simp only [List.length_cons]; omega
  simp only [List.length_cons] at h;show oneS (c :: b) :: allF n ((c :: b).drop _) = oneS (c :: b) :: allF b.length ((c :: b).drop _);rw [allF_more n _ (by omega)]
  rcases Nat.lt_or_ge n b.length with h2 | h2
  ·omega
  ·rw [allF_more b.length _ h1]
termination_by n b => b.length
decreasing_by all_goals (simp_wf; omega)
theorem allS_nil : allS [] = [] := rfl
theorem allS_cons {b : List UInt8} (h : b ≠ []) : allS b = oneS b :: allS (b.drop (oneS b).2) := by
 match b,h with
 | c :: b,_ =>
  show oneS (c :: b) :: allF b.length ((c :: b).drop _) = _;rw [allF_more];have hp := oneS_pos (c :: b);rw [List.length_drop]; simp only [List.length_cons]; omega
def gotC (g : Nat × Nat) : List D := [.int .i32 (g.1 : Nat), .int .i64 (g.2 : Nat)]
def gotsD (l : List (Nat × Nat)) : D := .sl ((l.map gotC).map (elD 2))
theorem gotC_len {l : List (Nat × Nat)} : ∀ e ∈ l.map gotC,e.length = 2 := by
 intro e he; obtain ⟨g,_,rfl⟩ := List.mem_map.1 he; rfl
theorem gotC_plain {l : List (Nat × Nat)} : ∀ e ∈ l.map gotC, ∀ d ∈ e,plainC d = true := by
 intro e he d hd; obtain ⟨g,_,rfl⟩ := List.mem_map.1 he;simp only [gotC,List.mem_cons,List.not_mem_nil,or_false] at hd
 rcases hd with rfl | rfl <;> rfl
theorem gots_rows (st : St) (l : List (Nat × Nat)) : V.Rows st 2 (gotsD l) (l.map gotC) := Rows.ofFrozen gotC_len gotC_plain
theorem scanS_le : ∀ (left n r lo hi : Nat) (b : List UInt8),(scanS left n r lo hi b).2.1 ≠ 0 -> (scanS left n r lo hi b).2.1 = n /\ left <= b.length
 | 0,n,r,lo,hi,b,h => by simp [scanS]
 | left + 1,n,r,lo,hi, [],h => by simp [scanS] at h
 | left + 1,n,r,lo,hi,x :: xs,h => by
  simp only [scanS] at h ⊢
  split at h
  ·simp at h
  ·rename_i hc;rw [if_neg hc];have := scanS_le left n _ _ _ xs h;exact ⟨this.1,by simp; omega⟩
theorem oneS_le {b : List UInt8} (h : b ≠ []) : (oneS b).2 <= b.length := by
 match b,h with
 | c :: xs,_ =>
  unfold oneS
  split
  ·simp
  ·rename_i hz;simp only [firstS] at hz ⊢
   split at hz
   ·simp at hz
   ·rename_i hk;rw [if_neg hk];have := scanS_le _ _ _ _ _ _ hz;rw [this.1]; simp; omega
theorem all_ev {st : St} {x : D} {b : List UInt8} (hb : Bytes st x b) (hlen : b.length <= 1048576) : Ev pv 12 [x] st (gotsD (allS b)) st := by
 refine Ev.mk1 rfl fi12 rfl rfl rfl ?_;refine zE ?_;have hx := hb.ref;(try refine qy ?_);(repeat refine qq ?_);(try generalize hK : SeqQ _ _ _ _ = K);refine EvC.reg ?_;(repeat (first | refine xT ?_ | refine xL ?_ | refine xN ?_ | refine xo ?_ | refine xp ?_));refine EvO.nil ?_;(try refine zF ?_);(try subst hK);(try refine qy ?_);(repeat refine qq ?_);(try generalize hK : SeqQ _ _ _ _ = K);refine EvC.reg ?_;(repeat (first | refine xT ?_ | refine xL ?_ | refine xN ?_ | refine xo ?_ | refine xp ?_));refine EvO.nil ?_;(try refine zF ?_);(try subst hK);(try refine qy ?_);refine EvC.seq (EvC.block ?_)
 refine EvC.loop (fun j fr st' => ∃ (y out r n : D) (b' : List UInt8) (done : List (Nat × Nat)),fr.clean = ⟨6, [y, .tup [], .nul,out,r,n], []⟩ /\ Ex st.bs.length (enterSt .ro st) st' /\ Bytes st' y b' /\ y.ref <= st.bs.length /\
  Acc st.bs.length st' 2 out (done.map gotC) /\ j = b'.length /\ done ++ allS b' = allS b /\ done.length + b'.length <= b.length) b.length
  ⟨x, .nul,_,_,b, [],rfl,Ex.refl _ _,hb.enter .ro,hx, .nul,rfl,rfl,by simp⟩ ?_
 rintro j fr st' ⟨y,out,r,n,b',done,hfr,hex,hy,hyr,hacc,rfl,hall,hl⟩;rw [hfr];(try refine qy ?_);(repeat refine qq ?_);(try generalize hK : SeqQ _ _ _ _ = K);refine EvC.reg ?_
 (first | refine xT ?_ | refine xL ?_ | refine xN ?_ | refine xo ?_ | refine xp ?_)
 refine EvO.len rfl rfl rfl hy rfl ?_;(repeat (first | refine xT ?_ | refine xL ?_ | refine xN ?_ | refine xo ?_ | refine xp ?_));refine EvO.nil ?_;(try refine zF ?_);(try subst hK);(try refine qy ?_);rw [byteCells_len];(try refine qy ?_);(repeat refine qq ?_);refine qc (fun h1 => ?_) (fun h1 => ?_) <;> try simp only [cs] at h1
 ·refine EvC.skip ?_;have hb0 : b' ≠ [] := by rintro rfl; simp at h1
  (try refine qy ?_);(repeat refine qq ?_);refine EvC.block ?_;(try refine qy ?_);(repeat refine qq ?_);(try generalize hK : SeqQ _ _ _ _ = K);refine EvC.reg ?_
  (first | refine xT ?_ | refine xL ?_ | refine xN ?_ | refine xo ?_ | refine xp ?_)
  refine EvO.callT rfl rfl rfl (first_ev hy) ?_;(repeat (first | refine xT ?_ | refine xL ?_ | refine xN ?_ | refine xo ?_ | refine xp ?_));refine EvO.nil ?_;(try refine zF ?_);(try subst hK);(try refine qy ?_);generalize hf : firstS b' = F at *;obtain ⟨r0,n0,bg⟩ := F;(try refine qy ?_);(repeat refine qq ?_);(try generalize hK : SeqQ _ _ _ _ = K);refine EvC.reg ?_;(repeat (first | refine xT ?_ | refine xL ?_ | refine xN ?_ | refine xo ?_ | refine xp ?_));refine EvO.nil ?_;(try refine zF ?_);(try subst hK);(try refine qy ?_);generalize hK : SeqQ _ _ _ _ = K
  have H : ∀ m,K .next ⟨6, [y, .tup [], .nul,out, .int .i32 ((oneS b').1 : Nat), .int .i64 ((oneS b').2 : Nat)],m⟩ st' := by
   intro m;subst hK;generalize hg : oneS b' = g;have hp := oneS_pos b';have hle := oneS_le hb0;rw [hg] at hp hle;(try refine qy ?_);(repeat refine qq ?_);(try generalize hK : SeqQ _ _ _ _ = K);refine EvC.reg ?_
   (first | refine xT ?_ | refine xL ?_ | refine xN ?_ | refine xo ?_ | refine xp ?_)
   (first | refine xT ?_ | refine xL ?_ | refine xN ?_ | refine xo ?_ | refine xp ?_)
   (first | refine xT ?_ | refine xL ?_ | refine xN ?_ | refine xo ?_ | refine xp ?_)
   refine EvO.T rfl rfl rfl (d := .agg (gotC g)) (st1 := st') rfl ?_;refine EvO.T rfl rfl rfl (d := .win st'.bs.length 0 0 1 2) (st1 := st'.push (.mem 0 true (gotC g))) rfl ?_;have hN : st.bs.length <= st'.bs.length := hex.len;have hex1 := hex.trans (Ex.push hN (.mem 0 true (gotC g)));refine EvO.append rfl rfl rfl rfl (hacc.push _) (Rows.one rfl) rfl rfl rfl rfl rfl rfl rfl (by decide) hex1.len (by rw [hex1.flr]; exact Nat.le_refl _) (by rw [hex1.ro]; exact Nat.le_refl _) (by simp only [List.length_map,List.length_cons,List.length_nil]; show (done.length + 1) * 16 <= _; omega) fun out' st2 hacc2 hex2 _ _ _ => ?_;(repeat (first | refine xT ?_ | refine xL ?_ | refine xN ?_ | refine xo ?_ | refine xp ?_));refine EvO.nil ?_;(try refine zF ?_);(try subst hK);(try refine qy ?_);have hex3 := hex1.trans hex2;have hy2 : Bytes st2 y b' := Rows.ex ((Ex.push hN _).trans hex2) hy hyr;(try refine qy ?_);(repeat refine qq ?_);(try generalize hK : SeqQ _ _ _ _ = K);refine EvC.reg ?_
   (first | refine xT ?_ | refine xL ?_ | refine xN ?_ | refine xo ?_ | refine xp ?_)
   (first | refine xT ?_ | refine xL ?_ | refine xN ?_ | refine xo ?_ | refine xp ?_)
   refine EvO.slice rfl rfl rfl hy2 rfl rfl (l := g.2) (r := b'.length) ?_ ⟨by omega,by rw [byteCells_len]; omega⟩ fun y2 hy3 hyr2 => ?_
   ·show boundsD (V.byteCells b').length (some (.int .i64 (g.2 : Nat))) none = _;rw [byteCells_len];simp only [boundsD,optBound,boundD,Option.bind_some];rw [if_pos ⟨by omega,by omega⟩]; rfl
   (repeat (first | refine xT ?_ | refine xL ?_ | refine xN ?_ | refine xo ?_ | refine xp ?_));refine EvO.nil ?_;(try refine zF ?_);(try subst hK);(try refine qy ?_);refine ⟨(b'.drop g.2).length,by rw [List.length_drop]; omega,y2,out',_,_,b'.drop g.2,done ++ [g],rfl,hex3,?_,Nat.le_trans hyr2 hyr,?_,rfl,?_,?_⟩
   ·have : ((V.byteCells b').take b'.length).drop g.2 = V.byteCells (b'.drop g.2) := by
     rw [<- byteCells_len,List.take_length]; simp [V.byteCells]
    unfold Bytes; rw [<- this]; exact hy3
   ·rw [List.map_append]; exact hacc2
   ·rw [List.append_assoc,List.singleton_append, <- hall,allS_cons hb0,hg]
   ·rw [List.length_append,List.length_drop]; simp only [List.length_cons,List.length_nil]; omega
  (try refine qy ?_);(repeat refine qq ?_);refine qc (fun h2 => ?_) (fun h2 => ?_) <;> try simp only [cs] at h2
  ·refine EvC.reg ?_;(repeat (first | refine xT ?_ | refine xL ?_ | refine xN ?_ | refine xo ?_ | refine xp ?_));refine EvO.nil ?_;(try refine zF ?_);have : oneS b' = (65533,1) := by unfold oneS; rw [hf,if_pos (by simpa using h2)]
   rw [this] at H;exact H _
  ·refine EvC.skip ?_;have : oneS b' = (r0,n0) := by unfold oneS; rw [hf,if_neg (by simpa using h2)]
   rw [this] at H;exact H _
 ·refine EvC.exit ?_
  have hb0 : b' = [] := by cases b' with | nil => rfl | cons _ _ => simp at h1 <;> omega
  subst hb0;rw [allS_nil,List.append_nil] at hall;(try refine qy ?_);(repeat refine qq ?_);(try generalize hK : SeqQ _ _ _ _ = K);refine EvC.reg ?_;(repeat (first | refine xT ?_ | refine xL ?_ | refine xN ?_ | refine xo ?_ | refine xp ?_));refine EvO.nil ?_;(try refine zF ?_);(try subst hK);(try refine qy ?_);refine EvC.ret ⟨rx,_,rfl,leave_same (by simp) (hex.take rfl) ?_⟩;rw [<- hall];exact hacc.freeze gotC_plain (n := 15) (by decide)
end Go.Proofs.Ytapfahlbkhgdpaa
namespace Go.Proofs.Ytapfahlbkhgdpaa
open Go.V Go
structure Prs where
 i : Nat
 o : Nat
 g : Nat
 e : Int
 w : Int
def prsC (gs : List (Nat × Nat)) (plD : D) (s : Prs) : List D := [gotsD gs,plD, .int .i64 (s.i : Nat), .int .i64 (s.o : Nat), .int .i64 (s.g : Nat), .int .i64 s.e, .int .i64 s.w]
def isS (gs : List (Nat × Nat)) (i : Nat) (r : Int) : Bool := match gs[i]? with
 | some g => ((g.1 : Nat) : Int) == r
 | none => false
theorem isS_lt {gs : List (Nat × Nat)} {i : Nat} {r : Int} (h : isS gs i r = true) : i < gs.length := by
 unfold isS at h
 split at h
 ·exact lt_get (by assumption)
 ·cases h
def skipS (gs : List (Nat × Nat)) (s : Prs) (r : Int) : Prs := if isS gs s.i r = true then { s with i := s.i + 1 } else s
def badS (gs : List (Nat × Nat)) (i : Nat) : Bool := match gs[i]? with
 | some g => ((g.1 : Nat) : Int) == 65533 && ((g.2 : Nat) : Int) == 1
 | none => false
def wrongS (pls : List Int) (s : Prs) (i : Nat) (e : Int) : Prs := if s.e = 0 then { s with e := e,w := pls.getD i 0 } else s
theorem is_ev {N k : Nat} {S s0 : St} {H : List Ent} {gs : List (Nat × Nat)} {plD : D} {s : Prs} (hgl : gs.length <= 1048576) (r : Int) (hH : Has N S s0 (.box k (.mem 0 false (prsC gs plD s)) :: H)) :
  ∃ d st',Ev pv 44 [.ptr k 0 0, .int .i32 r] s0 d st' /\ d = .bool (isS gs s.i r) /\ Has N S st' (.box k (.mem 0 false (prsC gs plD s)) :: H) := by
 refine Ev.mkE rfl fi44 rfl rfl rfl ?_;refine zE ?_;have hH0 := hH;have hH := hH.enterRw;have hS2 : (enterSt .rw s0).bs = s0.bs := rfl;generalize enterSt .rw s0 = S2 at *;have hgr : Arg N S2 2 (gotsD gs) (gs.map gotC) := Arg.pure (fun st => gots_rows st gs);refine zQ 4 ?_
 by_cases ha : s.i < gs.length
 ·obtain ⟨g,hg⟩ : ∃ g,gs[s.i]? = some g := ⟨gs[s.i]'ha,List.getElem?_eq_getElem _⟩
  have hr1 : (gs.map gotC)[s.i]? = some (gotC g) := by rw [List.getElem?_map,hg]; rfl
  have hg10 : decide ((s.i : Int) < (gs.length : Nat)) = true := by rw [decide_eq_true]; simp; omega
  have hv : isS gs s.i r = (((g.1 : Nat) : Int) == r) := by unfold isS; rw [hg]
  refine qq ?_;refine EvC.cutL 4 (.bool (((g.1 : Nat) : Int) == r)) [] ?_ (fun ff tmp => ?_)
  ·refine zQ 8 ?_;refine qn ?_;simp only [List.length_map];refine zQ 10 ?_;refine qr (fun p24 hp24 => ?_) (hg := wi hg10);refine qf (fo := 0) (fun p25 hp25 => ?_) (hg := wi hg10);refine zQ 5 ?_;refine EvO.nil (leafL ?_);dsimp only [setW,List.foldl,nth,u2,u1];dsimp only [Fr.putO,Fr.put,Fr.clean,Fr.ev,Fr.get,nth,look,u1,u2,v1,v2,v4]
   all_goals (first | rfl | (simp [hg10]; done) | (simp_all; done) | (simp [hg10]; omega) | (simp_all; omega))
  dsimp only [setW,List.foldl,nth,u2,u1];refine EvC.ret ⟨rx,_,_,_,rfl,leaveD_rw (rfl),?_⟩;exact ⟨by rw [hv]; rfl,hH0.leaveRw1 hS2 hH⟩
 ·have hg10 : decide ((s.i : Int) < (gs.length : Nat)) = false := by rw [decide_eq_false]; simp; omega
  have hv : isS gs s.i r = false := by
   cases h : isS gs s.i r with
   | true => exact absurd (isS_lt h) ha
   | false => rfl
  refine qq ?_;refine EvC.cutL 4 (.bool false) [] ?_ (fun ff tmp => ?_)
  ·refine zQ 8 ?_;refine qn ?_;simp only [List.length_map];refine zQ 17 ?_;refine EvO.nil (leafL ?_);dsimp only [setW,List.foldl,nth,u2,u1];dsimp only [Fr.putO,Fr.put,Fr.clean,Fr.ev,Fr.get,nth,look,u1,u2,v1,v2,v4]
   all_goals (first | rfl | (simp [hg10]; done) | (simp_all; done) | (simp [hg10]; omega) | (simp_all; omega))
  dsimp only [setW,List.foldl,nth,u2,u1];refine EvC.ret ⟨rx,_,_,_,rfl,leaveD_rw (rfl),?_⟩;exact ⟨by rw [hv]; rfl,hH0.leaveRw1 hS2 hH⟩
theorem skip_ev {N k : Nat} {S s0 : St} {H : List Ent} {gs : List (Nat × Nat)} {plD : D} {s : Prs} (hgl : gs.length <= 1048576) (r : Int) (hH : Has N S s0 (.box k (.mem 0 false (prsC gs plD s)) :: H)) :
  ∃ d st',Ev pv 34 [.ptr k 0 0, .int .i32 r] s0 d st' /\ d = .bool (isS gs s.i r) /\ Has N S st' (.box k (.mem 0 false (prsC gs plD (skipS gs s r))) :: H) := by
 refine Ev.mkE rfl fi34 rfl rfl rfl ?_;refine zE ?_;have hH0 := hH;have hH := hH.enterRw;have hS2 : (enterSt .rw s0).bs = s0.bs := rfl;generalize enterSt .rw s0 = S2 at *;refine zQ 9 ?_;obtain ⟨_,st,hev,rfl,hH⟩ := is_ev hgl r hH;refine qv hev ?_;refine zQ 1 ?_;unfold skipS
 cases hb : isS gs s.i r with
 | true =>
  have hlt := isS_lt hb;dsimp only [prsC] at hH;rw [if_pos rfl];refine zQ 10 ?_;refine qT hH at0 fun st hH => ?_;dsimp only [u2,u1,u3,u4,setMany,u5,u6,D.cells,Nat.reduceAdd,prsC,gotC,intC] at hH;refine zQ 5 ?_;refine EvC.ret ⟨rx,_,_,_,rfl,leaveD_rw (rfl),?_⟩;exact ⟨rfl,hH0.leaveRw1 hS2 hH⟩
 | false =>
  rw [if_neg (by simp)];refine zQ 6 ?_;refine EvC.ret ⟨rx,_,_,_,rfl,leaveD_rw (rfl),?_⟩;exact ⟨rfl,hH0.leaveRw1 hS2 hH⟩
theorem bad_ev {N k : Nat} {S s0 : St} {H : List Ent} {gs : List (Nat × Nat)} {plD : D} {s : Prs} (i : Nat) (hi : i < gs.length) (hH : Has N S s0 (.box k (.mem 0 false (prsC gs plD s)) :: H)) :
  ∃ d st',Ev pv 56 [.ptr k 0 0, .int .i64 (i : Nat)] s0 d st' /\ d = .bool (badS gs i) /\ Has N S st' (.box k (.mem 0 false (prsC gs plD s)) :: H) := by
 refine Ev.mkE rfl fi56 rfl rfl rfl ?_;refine zE ?_;have hH0 := hH;have hH := hH.enterRw;have hS2 : (enterSt .rw s0).bs = s0.bs := rfl;generalize enterSt .rw s0 = S2 at *;have hgr : Arg N S2 2 (gotsD gs) (gs.map gotC) := Arg.pure (fun st => gots_rows st gs);refine zQ 4 ?_
 obtain ⟨g,hg⟩ : ∃ g,gs[i]? = some g := ⟨gs[i]'hi,List.getElem?_eq_getElem _⟩
 have hr1 : (gs.map gotC)[i]? = some (gotC g) := by rw [List.getElem?_map,hg]; rfl
 have hv : badS gs i = (((g.1 : Nat) : Int) == 65533 && ((g.2 : Nat) : Int) == 1) := by unfold badS; rw [hg]
 refine qq ?_;refine EvC.cutL 4 (.bool (((g.1 : Nat) : Int) == 65533 && ((g.2 : Nat) : Int) == 1)) [] ?_ (fun ff tmp => ?_)
 ·refine zQ 5 ?_;refine qr fun p10 hp10 => ?_;refine qf (fo := 0) fun p11 hp11 => ?_;refine zQ 3 ?_;refine EvO.two 14 rfl (fun hg9 => ?_) (fun hg9 => ?_)
  ·refine zQ 5 ?_;refine qr (fun p20 hp20 => ?_) (hg := wi hg9);refine qf (fo := 1) (fun p21 hp21 => ?_) (hg := wi hg9);refine zQ 4 ?_;refine EvO.nil (leafL ?_);refine zG ?_
   all_goals (simp [hg9]; done)
  ·refine zQ 11 ?_;refine EvO.nil (leafL ?_);refine zG ?_
   all_goals (simp [hg9]; done)
 dsimp only [setW,List.foldl,nth,u2,u1];refine EvC.ret ⟨rx,_,_,_,rfl,leaveD_rw (rfl),?_⟩;exact ⟨by rw [hv]; rfl,hH0.leaveRw1 hS2 hH⟩
theorem wrong_ev {N k : Nat} {S s0 : St} {H : List Ent} {gs : List (Nat × Nat)} {plD : D} {pls : List Int} {s : Prs} (i : Nat) (e : Int) (hi : i < pls.length) (hH : Has N S s0 (.box k (.mem 0 false (prsC gs plD s)) :: .lst plD 1 (pls.map intC) :: H)) :
  ∃ d st',Ev pv 17 [.ptr k 0 0, .int .i64 (i : Nat), .int .i64 e] s0 d st' /\ d = .sl [] /\ Has N S st' (.box k (.mem 0 false (prsC gs plD (wrongS pls s i e))) :: .lst plD 1 (pls.map intC) :: H) := by
 refine Ev.mkE rfl fi17 rfl rfl rfl ?_;refine zE ?_;have hH0 := hH;have hH := hH.enterRw;have hS2 : (enterSt .rw s0).bs = s0.bs := rfl;generalize enterSt .rw s0 = S2 at *;refine zQ 4 ?_
 obtain ⟨v,hv⟩ : ∃ v,pls[i]? = some v := ⟨pls[i]'hi,List.getElem?_eq_getElem _⟩
 have hr1 := int_get hv;unfold wrongS;refine zQ 9 ?_;refine zI (fun h0 => ?_) fun h0 => ?_
 ·rw [if_pos h0];have hgd : pls.getD i 0 = v := by rw [List.getD_eq_getElem?_getD,hv]; rfl
  refine zQ 9 ?_;refine qi hH at1 fun p20 hp20 => ?_;refine zQ 3 ?_;refine qT hH at0 fun st hH => ?_;dsimp only [u2,u1,u3,u4,setMany,u5,u6,D.cells,Nat.reduceAdd,prsC,gotC,intC] at hH;refine zQ 2 ?_;refine qT hH at0 fun st hH => ?_;dsimp only [u2,u1,u3,u4,setMany,u5,u6,D.cells,Nat.reduceAdd,prsC,gotC,intC] at hH;refine zQ 5 ?_;refine EvC.ret ⟨rx,_,_,_,rfl,leaveD_rw (rfl),?_⟩;exact ⟨rfl,by rw [hgd]; exact hH0.leaveRw1 hS2 hH⟩
 ·rw [if_neg h0];refine zQ 5 ?_;refine EvC.ret ⟨rx,_,_,_,rfl,leaveD_rw (rfl),?_⟩;exact ⟨rfl,hH0.leaveRw1 hS2 hH⟩
end Go.Proofs.Ytapfahlbkhgdpaa
namespace Go.Proofs.Ytapfahlbkhgdpaa
open Go.V Go
noncomputable def makeR (l : List Rg) : List Rg := @dite _ (∃ a,MakeIs l a) (Classical.propDecidable _) (fun h => Classical.choose h) (fun _ => [])
theorem makeR_is {l a : List Rg} (h : MakeIs l a) : makeR l = a := by
 have hx : ∃ a,MakeIs l a := ⟨a,h⟩
 unfold makeR;rw [dif_pos hx];exact (Classical.choose_spec hx).unique h
theorem mk_ev {s0 : St} {x : D} {l : List Rg} (hx : V.Rows s0 2 x (l.map rangeC)) (hl : l.length <= 1048576) : Ev pv 49 [x] s0 (rangesV (makeR l)) s0 /\ (makeR l).length <= 2 * l.length /\ MakeIs l (makeR l) := by
 obtain ⟨_,hev,all,rfl,hperm,hpair⟩ := make_ev hx (by omega);have hM : MakeIs l (all.foldl joinR []).reverse := make_canon (fun x => hperm.mem_iff) hpair;have hlen := hperm.length_eq;have hfl := flatMap_len l;have hjl := join_pos all;rw [makeR_is hM];exact ⟨hev,by rw [List.length_reverse]; omega,hM⟩
theorem ranges_sl (l : List Rg) : SlD (rangesV l) 2 (l.map rangeC) := by
 rw [<- rangesV_el];refine SlD.frozen ?_ ?_
 ·intro e he; obtain ⟨x,_,rfl⟩ := List.mem_map.1 he; rfl
 ·intro e he d hd;obtain ⟨x,_,rfl⟩ := List.mem_map.1 he;simp only [rangeC,List.mem_cons,List.not_mem_nil,or_false] at hd
  rcases hd with rfl | rfl <;> rfl
theorem make_ne {r : Int} {l a : List Rg} (h0 : 0 <= r) (h1 : r < 55296) (hr : memR l r) (h : MakeIs l a) : a ≠ [] := by
 rintro rfl;have := (h.2 r).2 ⟨by unfold isRune; omega,hr⟩;obtain ⟨x,hx,_⟩ := this;cases hx
theorem make_single {r : Int} (h0 : 0 <= r) (h1 : r < 55296) {a : List Rg} (h : MakeIs [(r,r)] a) : a ≠ [] := by
 rintro rfl;have := (h.2 r).2 ⟨?_,?_⟩
 ·obtain ⟨x,hx,_⟩ := this;cases hx
 ·unfold isRune; omega
 ·exact ⟨(r,r),List.mem_cons_self ..,by simp⟩
theorem single_ev {s0 : St} (r : Int) : Ev pv 61 [.int .i32 r] s0 (rangesV (makeR [(r,r)])) s0 := by
 refine Ev.mk1 rfl fi61 rfl rfl rfl ?_;refine zE ?_;obtain ⟨hSb,hF,hH⟩ := ri s0;generalize enterSt .ro s0 = S at *;refine zQ 8 ?_;refine EvO.ones (qs := [(0,_),(1,_)]) rfl rfl rfl rfl ⟨rfl,(ev rfl),(by rfl),rfl,(ev rfl),(by rfl),trivial⟩ (by intro q hq; simp only [List.mem_cons,List.not_mem_nil,or_false] at hq; rcases hq with rfl | rfl <;> exact ⟨rfl,by exact Nat.le_of_ble_eq_true rfl⟩) (by show List.foldl _ [_,_] _ = _; dsimp only [List.foldl_cons,List.foldl_nil,u2,u1] <;> rfl) (put_T rfl _) ?_;refine qh (s := 2) (vs := [_]) hH fun k6 st hk6 hH => ?_;obtain ⟨hev,hl,_⟩ := mk_ev (l := [(r,r)]) (hH.rows at0) (by simp);refine qv hev ?_;refine zQ 2 ?_;refine EvC.ret ⟨rx,_,rfl,rl hSb hH (rfl)⟩
theorem mark_ev {s0 : St} (r : Int) : Ev pv 69 [.int .i32 r] s0 (.bool (decide (33 <= r /\ r <= 47 \/ 58 <= r /\ r <= 64 \/ 91 <= r /\ r <= 96 \/ 123 <= r /\ r <= 126))) s0 := by
 refine Ev.mk1 rfl fi69 rfl rfl rfl ?_;refine zE ?_;obtain ⟨hSb,hF,hH⟩ := ri s0;generalize enterSt .ro s0 = S at *;refine zQ 5 ?_;refine EvC.cutL 2 (.bool (decide (33 <= r /\ r <= 47 \/ 58 <= r /\ r <= 64 \/ 91 <= r /\ r <= 96 \/ 123 <= r /\ r <= 126))) [] ?_ (fun ff tmp => ?_)
 ·refine zQ 3 ?_;refine EvO.two 5 rfl (fun hg2 => ?_) (fun hg2 => ?_)
  ·refine zQ 4 ?_;refine EvO.two 9 rfl (fun hg6 => ?_) (fun hg6 => ?_)
   ·refine zQ 24 ?_;refine EvO.nil (leafL ?_);refine zG ?_
    all_goals (simp [hg2,hg6]; done)
   ·refine zQ 3 ?_;refine EvO.two 12 rfl (fun hg9 => ?_) (fun hg9 => ?_)
    ·refine zQ 2 ?_;refine EvO.pickT (wantD_is rfl rfl rfl hg6) rfl hg9 (put_T rfl _) ?_;refine zQ 2 ?_;refine EvO.two 17 rfl (fun hg14 => ?_) (fun hg14 => ?_)
     ·refine zQ 16 ?_;refine EvO.nil (leafL ?_);refine zG ?_
      all_goals (simp [hg2,hg6,hg9,hg14]; done)
     ·refine zQ 3 ?_;refine EvO.two 20 rfl (fun hg17 => ?_) (fun hg17 => ?_)
      ·refine zQ 2 ?_;refine EvO.pickT (wantD_is rfl rfl rfl hg14) rfl hg17 (put_T rfl _) ?_;refine zQ 2 ?_;refine EvO.two 25 rfl (fun hg22 => ?_) (fun hg22 => ?_)
       ·refine zQ 8 ?_;refine EvO.nil (leafL ?_);refine zG ?_
        all_goals (simp [hg2,hg6,hg9,hg14,hg17,hg22]; done)
       ·refine zQ 3 ?_;refine EvO.two 28 rfl (fun hg25 => ?_) (fun hg25 => ?_)
        ·refine zQ 2 ?_;refine EvO.pickT (wantD_is rfl rfl rfl hg22) rfl hg25 (put_T rfl _) ?_;refine zQ 2 ?_;refine EvO.nil (leafL ?_);refine zG ?_
         all_goals (simp [hg2,hg6,hg9,hg14,hg17,hg22,hg25]; done)
        ·refine zQ 2 ?_;refine EvO.pickF (wantD_is rfl rfl rfl hg22) rfl hg25 (put_T rfl _) ?_;refine zQ 2 ?_;refine EvO.nil (leafL ?_);refine zG ?_
         all_goals (simp [hg2,hg6,hg9,hg14,hg17,hg22,hg25]; done)
      ·refine zQ 2 ?_;refine EvO.pickF (wantD_is rfl rfl rfl hg14) rfl hg17 (put_T rfl _) ?_;refine zQ 5 ?_;refine EvO.two 28 rfl (fun hg25 => ?_) (fun hg25 => ?_)
       ·refine zQ 5 ?_;refine EvO.nil (leafL ?_);refine zG ?_
        all_goals (simp [hg2,hg6,hg9,hg14,hg17,hg25]; done)
       ·refine zQ 5 ?_;refine EvO.nil (leafL ?_);refine zG ?_
        all_goals (simp [hg2,hg6,hg9,hg14,hg17,hg25]; done)
    ·refine zQ 2 ?_;refine EvO.pickF (wantD_is rfl rfl rfl hg6) rfl hg9 (put_T rfl _) ?_;refine zQ 5 ?_;refine EvO.two 20 rfl (fun hg17 => ?_) (fun hg17 => ?_)
     ·refine zQ 5 ?_;refine EvO.two 25 rfl (fun hg22 => ?_) (fun hg22 => ?_)
      ·refine zQ 8 ?_;refine EvO.nil (leafL ?_);refine zG ?_
       all_goals (simp [hg2,hg6,hg9,hg17,hg22]; done)
      ·refine zQ 3 ?_;refine EvO.two 28 rfl (fun hg25 => ?_) (fun hg25 => ?_)
       ·refine zQ 2 ?_;refine EvO.pickT (wantD_is rfl rfl rfl hg22) rfl hg25 (put_T rfl _) ?_;refine zQ 2 ?_;refine EvO.nil (leafL ?_);refine zG ?_
        all_goals (simp [hg2,hg6,hg9,hg17,hg22,hg25]; done)
       ·refine zQ 2 ?_;refine EvO.pickF (wantD_is rfl rfl rfl hg22) rfl hg25 (put_T rfl _) ?_;refine zQ 2 ?_;refine EvO.nil (leafL ?_);refine zG ?_
        all_goals (simp [hg2,hg6,hg9,hg17,hg22,hg25]; done)
     ·refine zQ 8 ?_;refine EvO.two 28 rfl (fun hg25 => ?_) (fun hg25 => ?_)
      ·refine zQ 5 ?_;refine EvO.nil (leafL ?_);refine zG ?_
       all_goals (simp [hg2,hg6,hg9,hg17,hg25]; done)
      ·refine zQ 5 ?_;refine EvO.nil (leafL ?_);refine zG ?_
       all_goals (simp [hg2,hg6,hg9,hg17,hg25]; done)
  ·refine zQ 7 ?_;refine EvO.two 12 rfl (fun hg9 => ?_) (fun hg9 => ?_)
   ·refine zQ 5 ?_;refine EvO.two 17 rfl (fun hg14 => ?_) (fun hg14 => ?_)
    ·refine zQ 16 ?_;refine EvO.nil (leafL ?_);refine zG ?_
     all_goals (simp [hg2,hg9,hg14]; done)
    ·refine zQ 3 ?_;refine EvO.two 20 rfl (fun hg17 => ?_) (fun hg17 => ?_)
     ·refine zQ 2 ?_;refine EvO.pickT (wantD_is rfl rfl rfl hg14) rfl hg17 (put_T rfl _) ?_;refine zQ 2 ?_;refine EvO.two 25 rfl (fun hg22 => ?_) (fun hg22 => ?_)
      ·refine zQ 8 ?_;refine EvO.nil (leafL ?_);refine zG ?_
       all_goals (simp [hg2,hg9,hg14,hg17,hg22]; done)
      ·refine zQ 3 ?_;refine EvO.two 28 rfl (fun hg25 => ?_) (fun hg25 => ?_)
       ·refine zQ 2 ?_;refine EvO.pickT (wantD_is rfl rfl rfl hg22) rfl hg25 (put_T rfl _) ?_;refine zQ 2 ?_;refine EvO.nil (leafL ?_);refine zG ?_
        all_goals (simp [hg2,hg9,hg14,hg17,hg22,hg25]; done)
       ·refine zQ 2 ?_;refine EvO.pickF (wantD_is rfl rfl rfl hg22) rfl hg25 (put_T rfl _) ?_;refine zQ 2 ?_;refine EvO.nil (leafL ?_);refine zG ?_
        all_goals (simp [hg2,hg9,hg14,hg17,hg22,hg25]; done)
     ·refine zQ 2 ?_;refine EvO.pickF (wantD_is rfl rfl rfl hg14) rfl hg17 (put_T rfl _) ?_;refine zQ 5 ?_;refine EvO.two 28 rfl (fun hg25 => ?_) (fun hg25 => ?_)
      ·refine zQ 5 ?_;refine EvO.nil (leafL ?_);refine zG ?_
       all_goals (simp [hg2,hg9,hg14,hg17,hg25]; done)
      ·refine zQ 5 ?_;refine EvO.nil (leafL ?_);refine zG ?_
       all_goals (simp [hg2,hg9,hg14,hg17,hg25]; done)
   ·refine zQ 8 ?_;refine EvO.two 20 rfl (fun hg17 => ?_) (fun hg17 => ?_)
    ·refine zQ 5 ?_;refine EvO.two 25 rfl (fun hg22 => ?_) (fun hg22 => ?_)
     ·refine zQ 8 ?_;refine EvO.nil (leafL ?_);refine zG ?_
      all_goals (simp [hg2,hg9,hg17,hg22]; done)
     ·refine zQ 3 ?_;refine EvO.two 28 rfl (fun hg25 => ?_) (fun hg25 => ?_)
      ·refine zQ 2 ?_;refine EvO.pickT (wantD_is rfl rfl rfl hg22) rfl hg25 (put_T rfl _) ?_;refine zQ 2 ?_;refine EvO.nil (leafL ?_);refine zG ?_
       all_goals (simp [hg2,hg9,hg17,hg22,hg25]; done)
      ·refine zQ 2 ?_;refine EvO.pickF (wantD_is rfl rfl rfl hg22) rfl hg25 (put_T rfl _) ?_;refine zQ 2 ?_;refine EvO.nil (leafL ?_);refine zG ?_
       all_goals (simp [hg2,hg9,hg17,hg22,hg25]; done)
    ·refine zQ 8 ?_;refine EvO.two 28 rfl (fun hg25 => ?_) (fun hg25 => ?_)
     ·refine zQ 5 ?_;refine EvO.nil (leafL ?_);refine zG ?_
      all_goals (simp [hg2,hg9,hg17,hg25]; done)
     ·refine zQ 5 ?_;refine EvO.nil (leafL ?_);refine zG ?_
      all_goals (simp [hg2,hg9,hg17,hg25]; done)
 dsimp only [setW,List.foldl,nth,u2,u1];refine EvC.ret ⟨rx,_,rfl,rl hSb hH (rfl)⟩
end Go.Proofs.Ytapfahlbkhgdpaa
namespace Go.Proofs.Ytapfahlbkhgdpaa
open Go.V Go
theorem runesD_gots : ∀ gs : List (Nat × Nat),runesD ((gs.map gotC).map (elD 2)) = some (gs.map fun g => ((g.1 : Nat) : Int))
 | [] => rfl
 | g :: gs => by
  have ih := runesD_gots gs;simp only [List.map_cons];show (match runesD ((gs.map gotC).map (elD 2)) with | some rs => some (((g.1 : Nat) : Int) :: rs) | none => none) = _;rw [ih]
theorem digS_len : ∀ (rs : List Int) (acc : List UInt8),(digS rs acc).2 <= rs.length /\ (digS rs acc).1.length <= acc.length + (digS rs acc).2
 | [],acc => by simp [digS]
 | r :: rs,acc => by
  unfold digS
  split
  ·have h := digS_len rs (if 48 < r \/ acc ≠ [] then acc ++ [UInt8.ofNat r.toNat] else acc);simp only [List.length_cons]
   have hl : (if 48 < r \/ acc ≠ [] then acc ++ [UInt8.ofNat r.toNat] else acc).length <= acc.length + 1 := by
    split <;> simp
   omega
  ·simp
structure PrsOk (gs : List (Nat × Nat)) (pls : List Int) : Prop where
 gl : gs.length <= 120
 pl : pls.length = gs.length
end Go.Proofs.Ytapfahlbkhgdpaa
namespace Go.Proofs.Ytapfahlbkhgdpaa
open Go.V Go
structure Nod where
  op : Int
  rd : D
  rs : List Rg
  mn : Int
  mx : Int
  lz : Bool
  cap : Int
  kids : Int
def nodC (n : Nod) : List D := [.int .i64 n.op,n.rd, .int .i64 n.mn, .int .i64 n.mx, .bool n.lz, .int .i64 n.cap, .int .i64 n.kids]
def Nod.ok (n : Nod) : Prop := SlD n.rd 2 (n.rs.map rangeC) /\ n.rs.length <= 1048576 /\ n.kids <= 9223372036854775807
structure Nl where
  d : D
  l : List Nod
structure Nl.ok (x : Nl) : Prop where
  c : SlD x.d 7 (x.l.map nodC)
  i : ∀ n ∈ x.l,n.ok
  nl : x.l.length <= 1048576
theorem nod_get {l : List Nod} {i : Nat} {q : Nod} (h : l[i]? = some q) : (l.map nodC)[i]? = some (nodC q) := by rw [List.getElem?_map,h]; rfl
mutual
inductive Tr where
  | mk (n : Nod) (ks : Trs)
inductive Trs where
  | nil
  | cons (t : Tr) (ts : Trs)
end
def Trs.len : Trs -> Nat
  | .nil => 0
  | .cons _ ts => ts.len + 1
mutual
def Tr.flat : Tr -> List Nod
  | .mk n ks => n :: ks.flat
def Trs.flat : Trs -> List Nod
  | .nil => []
  | .cons t ts => t.flat ++ ts.flat
end
def nodOk (n : Nod) (nk : Nat) : Prop :=
  n.kids = (nk : Int) /\ (((n.op = 1 \/ n.op = 7 \/ n.op = 8) /\ nk = 0) \/ (n.op = 2 /\ nk = 0) \/ ((n.op = 3 \/ n.op = 4) /\ 2 <= nk) \/
    (n.op = 5 /\ nk = 1 /\ 0 <= n.mn /\ n.mn <= 30 /\ (n.mx = -1 \/ (n.mn <= n.mx /\ n.mx <= 30))) \/ (n.op = 6 /\ nk = 1 /\ 1 <= n.cap /\ n.cap <= 4))
mutual
def Tr.ok : Tr -> Prop
  | .mk n ks => nodOk n ks.len /\ ks.ok
def Trs.ok : Trs -> Prop
  | .nil => True
  | .cons t ts => t.ok /\ ts.ok
end
def nodSz (n : Nod) (s k : Nat) : Nat :=
  if n.op = 2 \/ n.op = 7 \/ n.op = 8 then 1
  else if n.op = 4 then s + 2 * (k - 1)
  else if n.op = 6 then s + 2
  else if n.op = 5 then (if n.mx = -1 then n.mn.toNat * s + s + 2 else n.mn.toNat * s + (n.mx.toNat - n.mn.toNat) * (s + 1))
  else s
mutual
def Tr.sz : Tr -> Nat
  | .mk n ks => nodSz n ks.sz ks.len
def Trs.sz : Trs -> Nat
  | .nil => 0
  | .cons t ts => t.sz + ts.sz
end
def mkI (op x y : Int) (rs : List Rg) : PIns := ⟨op,x,y, .sl ((rs.map rangeC).map (elD 2)),rs⟩
def spI (s o : Nat) (lz : Bool) : PIns := if lz = true then mkI 2 (o : Nat) ((s + 1 : Nat) : Int) [] else mkI 2 ((s + 1 : Nat) : Int) (o : Nat) []
def jpI (e : Nat) : PIns := mkI 3 (e : Nat) 0 []
def repC (c : Nat -> List PIns) (z : Nat) : Nat -> Nat -> List PIns
  | 0,_ => []
  | k + 1,b => c b ++ repC c z k (b + z)
def optC (sp : Nat -> PIns) (c : Nat -> List PIns) (z : Nat) : Nat -> Nat -> List PIns
  | 0,_ => []
  | k + 1,b => sp b :: (c (b + 1) ++ optC sp c z k (b + 1 + z))
def optJ (z : Nat) : Nat -> Nat -> List Nat
  | 0,_ => []
  | k + 1,b => b :: optJ z k (b + 1 + z)
def rptC (n : Nod) (c : Nat -> List PIns) (z b : Nat) : List PIns :=
  if n.mx = -1 then repC c z n.mn.toNat b ++ (spI (b + n.mn.toNat * z) (b + n.mn.toNat * z + z + 2) n.lz :: (c (b + n.mn.toNat * z + 1) ++ [jpI (b + n.mn.toNat * z)]))
  else repC c z n.mn.toNat b ++ optC (fun s => spI s (b + n.mn.toNat * z + (n.mx.toNat - n.mn.toNat) * (z + 1)) n.lz) c z (n.mx.toNat - n.mn.toNat) (b + n.mn.toNat * z)
mutual
def codeT : Tr -> Nat -> List PIns
  | .mk n ks,b =>
    if n.op = 2 then [mkI 1 0 0 n.rs]
    else if n.op = 7 then [mkI 5 0 0 []]
    else if n.op = 8 then [mkI 6 0 0 []]
    else if n.op = 3 then catT ks b
    else if n.op = 4 then altT (jpI (b + nodSz n ks.sz ks.len)) ks b
    else if n.op = 5 then rptC n (catT ks) ks.sz b
    else if n.op = 6 then mkI 4 (2 * n.cap) 0 [] :: (catT ks (b + 1) ++ [mkI 4 (2 * n.cap + 1) 0 []])
    else []
def catT : Trs -> Nat -> List PIns
  | .nil,_ => []
  | .cons t ts,b => codeT t b ++ catT ts (b + t.sz)
def altT (jp : PIns) : Trs -> Nat -> List PIns
  | .nil,_ => []
  | .cons t ts,b => if ts.len = 0 then codeT t b else spI b (b + 1 + t.sz + 1) false :: (codeT t (b + 1) ++ jp :: altT jp ts (b + t.sz + 2))
end
def altJ : Trs -> Nat -> List Nat
  | .nil,_ => []
  | .cons t ts,b => if ts.len = 0 then [] else (b + 1 + t.sz) :: altJ ts (b + t.sz + 2)
theorem repC_len {c : Nat -> List PIns} {z : Nat} (hc : ∀ b,(c b).length = z) : ∀ k b,(repC c z k b).length = k * z
  | 0,b => by simp [repC]
  | k + 1,b => by rw [repC,List.length_append,hc,repC_len hc k,Nat.add_mul]; omega
theorem optC_len {sp : Nat -> PIns} {c : Nat -> List PIns} {z : Nat} (hc : ∀ b,(c b).length = z) : ∀ k b,(optC sp c z k b).length = k * (z + 1)
  | 0,b => by simp [optC]
  | k + 1,b => by rw [optC,List.length_cons,List.length_append,hc,optC_len hc k,Nat.add_mul]; omega
theorem rptC_len {n : Nod} {c : Nat -> List PIns} {z b : Nat} (hc : ∀ b,(c b).length = z) (h : n.op = 5) : (rptC n c z b).length = nodSz n z 1 := by
  unfold rptC nodSz
  rw [if_neg (show ¬ (n.op = 2 \/ n.op = 7 \/ n.op = 8) by omega),if_neg (show ¬ n.op = 4 by omega),if_neg (show ¬ n.op = 6 by omega),if_pos h]
  split
  · rw [List.length_append,repC_len hc,List.length_cons,List.length_append,hc]; simp only [List.length_cons,List.length_nil]; omega
  · rw [List.length_append,repC_len hc,optC_len hc]
theorem Trs.len_one {ks : Trs} (h : ks.len = 1) : ∃ t,ks = .cons t .nil := by
  cases ks with
  | nil => simp [Trs.len] at h
  | cons t ts => cases ts with
    | nil => exact ⟨t,rfl⟩
    | cons u us => simp [Trs.len] at h
theorem Trs.len_nil {ks : Trs} (h : ks.len = 0) : ks = .nil := by
  cases ks with
  | nil => rfl
  | cons t ts => simp [Trs.len] at h
mutual
theorem codeT_len : ∀ (t : Tr) (b : Nat),t.ok -> (codeT t b).length = t.sz
  | .mk n ks,b,h => by
    simp only [Tr.ok] at h
    obtain ⟨h1,h2⟩ := h
    have hc := fun b => catT_len ks b h2
    have ha := fun jp b => altT_len jp ks b h2
    simp only [codeT,Tr.sz]
    obtain ⟨_,⟨h3,h4⟩ | ⟨h3,h4⟩ | ⟨h3,h4⟩ | ⟨h3,h4,h5⟩ | ⟨h3,h4,h5⟩⟩ := h1
    · have hk := Trs.len_nil h4
      subst hk
      by_cases q7 : n.op = 7
      · simp [q7,nodSz]
      · by_cases q8 : n.op = 8
        · simp [q8,nodSz]
        · have q1 : n.op = 1 := by omega
          simp [q1,nodSz,Trs.sz]
    · simp [h3,nodSz]
    · rcases h3 with h3 | h3
      · simp [h3,nodSz,hc]
      · simp [h3,nodSz,ha]
    · have := rptC_len (n := n) (b := b) hc h3
      simp only [h3] at this ⊢
      simp only [show ¬ ((5 : Int) = 2) by decide,show ¬ ((5 : Int) = 7) by decide,show ¬ ((5 : Int) = 8) by decide,show ¬ ((5 : Int) = 3) by decide,show ¬ ((5 : Int) = 4) by decide,if_false,if_true]
      rw [this,h4]
    · simp [h3,nodSz,hc]
theorem catT_len : ∀ (ts : Trs) (b : Nat),ts.ok -> (catT ts b).length = ts.sz
  | .nil,b,_ => by simp [catT,Trs.sz]
  | .cons t ts,b,h => by
    simp only [Trs.ok] at h
    simp only [catT,Trs.sz,List.length_append]
    rw [codeT_len t b h.1,catT_len ts _ h.2]
theorem altT_len (jp : PIns) : ∀ (ts : Trs) (b : Nat),ts.ok -> (altT jp ts b).length = ts.sz + 2 * (ts.len - 1)
  | .nil,b,_ => by simp [altT,Trs.sz,Trs.len]
  | .cons t ts,b,h => by
    simp only [Trs.ok] at h
    have h1 := altT_len jp ts (b + t.sz + 2) h.2
    simp only [altT,Trs.sz,Trs.len]
    by_cases q : ts.len = 0
    · rw [if_pos q,codeT_len t b h.1,q]
      have := Trs.len_nil q
      subst this
      simp [Trs.sz]
    · rw [if_neg q,List.length_cons,List.length_append,List.length_cons,codeT_len t _ h.1,h1]
      omega
end
def setAll (f : Nat -> PIns) (c : List PIns) (l : List Nat) : List PIns := l.foldl (fun c j => c.set j (f j)) c
theorem set_mid {α : Type} (pre post : List α) (x y : α) : (pre ++ x :: post).set pre.length y = pre ++ y :: post := by
  rw [List.set_append_right _ _ (Nat.le_refl _),Nat.sub_self]; rfl
theorem get_mid {α : Type} (pre post : List α) (x : α) : (pre ++ x :: post)[pre.length]? = some x := by
  rw [List.getElem?_append_right (Nat.le_refl _),Nat.sub_self]; rfl
theorem opt_patch {sp : Nat -> PIns} {c : Nat -> List PIns} {z : Nat} (hc : ∀ b,(c b).length = z) {i0 : PIns} : ∀ (k b : Nat) (pre post : List PIns),pre.length = b -> setAll sp (pre ++ optC (fun _ => i0) c z k b ++ post) (optJ z k b) = pre ++ optC sp c z k b ++ post /\ ∀ j ∈ optJ z k b,(pre ++ optC (fun _ => i0) c z k b ++ post)[j]? = some i0
  | 0,b,pre,post,_ => ⟨rfl,fun j hj => by cases hj⟩
  | k + 1,b,pre,post,h => by
    have ih := opt_patch (sp := sp) hc (i0 := i0) k (b + 1 + z) (pre ++ i0 :: c (b + 1)) post (by rw [List.length_append,List.length_cons,hc]; omega)
    have ih2 := opt_patch (sp := sp) hc (i0 := i0) k (b + 1 + z) (pre ++ sp b :: c (b + 1)) post (by rw [List.length_append,List.length_cons,hc]; omega)
    simp only [optC,optJ]
    have e : pre ++ i0 :: (c (b + 1) ++ optC (fun _ => i0) c z k (b + 1 + z)) ++ post = pre ++ i0 :: (c (b + 1) ++ optC (fun _ => i0) c z k (b + 1 + z) ++ post) := by simp
    have e2 : pre ++ i0 :: c (b + 1) ++ optC (fun _ => i0) c z k (b + 1 + z) ++ post = pre ++ i0 :: (c (b + 1) ++ optC (fun _ => i0) c z k (b + 1 + z) ++ post) := by simp
    refine ⟨?_,fun j hj => ?_⟩
    · unfold setAll at ih2 ⊢
      rw [List.foldl_cons,e]
      have hs : (pre ++ i0 :: (c (b + 1) ++ optC (fun _ => i0) c z k (b + 1 + z) ++ post)).set b (sp b) = pre ++ sp b :: c (b + 1) ++ optC (fun _ => i0) c z k (b + 1 + z) ++ post := by
        rw [<- h,set_mid]; simp
      rw [hs,ih2.1]; simp
    · rw [e]
      rcases List.mem_cons.1 hj with rfl | hj
      · rw [<- h]; exact get_mid _ _ _
      · rw [<- e2]; exact ih.2 j hj
theorem alt_patch {jp i0 : PIns} : ∀ (ts : Trs) (b : Nat) (pre post : List PIns),ts.ok -> pre.length = b -> setAll (fun _ => jp) (pre ++ altT i0 ts b ++ post) (altJ ts b) = pre ++ altT jp ts b ++ post /\ ∀ j ∈ altJ ts b,(pre ++ altT i0 ts b ++ post)[j]? = some i0
  | .nil,b,pre,post,_,_ => ⟨by simp [altT,altJ,setAll],fun j hj => by simp [altJ] at hj⟩
  | .cons t ts,b,pre,post,hok,h => by
    simp only [Trs.ok] at hok
    by_cases q : ts.len = 0
    · simp only [altT,altJ,if_pos q]
      exact ⟨rfl,fun j hj => by cases hj⟩
    · simp only [altT,altJ,if_neg q]
      generalize spI b (b + 1 + t.sz + 1) false = sp
      have hcl := codeT_len t (b + 1) hok.1
      have ih := alt_patch (jp := jp) (i0 := i0) ts (b + t.sz + 2) (pre ++ sp :: (codeT t (b + 1) ++ [i0])) post hok.2 (by simp only [List.length_append,List.length_cons,List.length_nil,hcl]; omega)
      have ih2 := alt_patch (jp := jp) (i0 := i0) ts (b + t.sz + 2) (pre ++ sp :: (codeT t (b + 1) ++ [jp])) post hok.2 (by simp only [List.length_append,List.length_cons,List.length_nil,hcl]; omega)
      generalize altT i0 ts (b + t.sz + 2) = A at *
      have e : pre ++ sp :: (codeT t (b + 1) ++ i0 :: A) ++ post = (pre ++ sp :: codeT t (b + 1)) ++ i0 :: (A ++ post) := by simp
      have hl : (pre ++ sp :: codeT t (b + 1)).length = b + 1 + t.sz := by simp only [List.length_append,List.length_cons,hcl]; omega
      refine ⟨?_,fun j hj => ?_⟩
      · unfold setAll at ih2 ⊢
        rw [List.foldl_cons,e, <- hl,set_mid]
        have := ih2.1
        simp only [List.append_assoc,List.cons_append,List.nil_append] at this ⊢
        exact this
      · rw [e]
        rcases List.mem_cons.1 hj with rfl | hj
        · rw [<- hl]; exact get_mid _ _ _
        · have := ih.2 j hj
          simp only [List.append_assoc,List.cons_append,List.nil_append] at this ⊢
          exact this
def Seg {α : Type} (L : List α) (at_ : Nat) (M : List α) : Prop := ∃ post,L.drop at_ = M ++ post
theorem Seg.head {α : Type} {L M : List α} {a : α} {at_ : Nat} (h : Seg L at_ (a :: M)) : L[at_]? = some a := by
  obtain ⟨post,h⟩ := h
  have := congrArg (·[0]?) h
  simpa using this
theorem Seg.tail {α : Type} {L M : List α} {a : α} {at_ : Nat} (h : Seg L at_ (a :: M)) : Seg L (at_ + 1) M := by
  obtain ⟨post,h⟩ := h
  refine ⟨post,?_⟩
  rw [<- List.drop_drop,h]; rfl
theorem Seg.left {α : Type} {L M M' : List α} {at_ : Nat} (h : Seg L at_ (M ++ M')) : Seg L at_ M := by
  obtain ⟨post,h⟩ := h
  exact ⟨M' ++ post,by rw [h,List.append_assoc]⟩
theorem Seg.right {α : Type} {L M M' : List α} {at_ : Nat} (h : Seg L at_ (M ++ M')) : Seg L (at_ + M.length) M' := by
  obtain ⟨post,h⟩ := h
  refine ⟨post,?_⟩
  rw [<- List.drop_drop,h,List.append_assoc,List.drop_left]
theorem Seg.le {α : Type} {L M : List α} {at_ : Nat} (h : Seg L at_ M) (hM : M ≠ []) : at_ + M.length <= L.length := by
  obtain ⟨post,h⟩ := h
  have := congrArg List.length h
  simp only [List.length_drop,List.length_append] at this
  have : 0 < M.length := by cases M with | nil => exact absurd rfl hM | cons _ _ => simp
  omega
theorem Seg.all {α : Type} (L : List α) : Seg L 0 L := ⟨[],by simp⟩
mutual
def Tr.zs : Tr -> List Int
  | .mk n ks => ((min (nodSz n ks.sz ks.len) 401 : Nat) : Int) :: ks.zs
def Trs.zs : Trs -> List Int
  | .nil => []
  | .cons t ts => t.zs ++ ts.zs
end
mutual
def Tr.es : Tr -> Nat -> List Int
  | .mk n ks,at_ => ((at_ + 1 + ks.flat.length : Nat) : Int) :: ks.es (at_ + 1)
def Trs.es : Trs -> Nat -> List Int
  | .nil,_ => []
  | .cons t ts,at_ => t.es at_ ++ ts.es (at_ + t.flat.length)
end
mutual
theorem Tr.zs_len : ∀ t : Tr,t.zs.length = t.flat.length
  | .mk n ks => by simp [Tr.zs,Tr.flat,Trs.zs_len ks]
theorem Trs.zs_len : ∀ ts : Trs,ts.zs.length = ts.flat.length
  | .nil => rfl
  | .cons t ts => by simp [Trs.zs,Trs.flat,Tr.zs_len t,Trs.zs_len ts]
end
mutual
theorem Tr.es_len : ∀ (t : Tr) (a : Nat),(t.es a).length = t.flat.length
  | .mk n ks,a => by simp [Tr.es,Tr.flat,Trs.es_len ks]
theorem Trs.es_len : ∀ (ts : Trs) (a : Nat),(ts.es a).length = ts.flat.length
  | .nil,_ => rfl
  | .cons t ts,a => by simp [Trs.es,Trs.flat,Tr.es_len t,Trs.es_len ts]
end
theorem Tr.flat_pos (t : Tr) : 0 < t.flat.length := by cases t; simp [Tr.flat]
theorem Trs.len_le : ∀ ts : Trs,ts.len <= ts.flat.length
  | .nil => Nat.le_refl _
  | .cons t ts => by
    have h1 := Trs.len_le ts
    have h2 := t.flat_pos
    simp only [Trs.len,Trs.flat,List.length_append]; omega
end Go.Proofs.Ytapfahlbkhgdpaa
