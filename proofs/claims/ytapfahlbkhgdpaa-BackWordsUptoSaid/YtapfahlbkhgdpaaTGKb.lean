/- own -/
import Derived.Test.YtapfahlbkhgdpaaTGM3
import Derived.Test.YtapfahlbkhgdpaaTGHr
set_option linter.unusedSimpArgs false
set_option linter.unusedVariables false
set_option linter.unusedSectionVars false
set_option maxRecDepth 100000
set_option maxHeartbeats 4000000
namespace Go.V
variable {N : Nat} {S st : St} {H : List Ent}
theorem All2.at_ {α β : Type} {R : α -> β -> Prop} : ∀ {l : List α} {m : List β} {i : Nat} {b : β},All2 R l m -> m[i]? = some b -> ∃ a,l[i]? = some a /\ R a b
  | _,_,_,_, .nil,h => by simp at h
  | _,_,0,_, .cons a t,h => by simp only [List.getElem?_cons_zero,Option.some.injEq] at h; subst h; exact ⟨_,rfl,a⟩
  | _,_,i + 1,_, .cons a t,h => by simp only [List.getElem?_cons_succ] at h ⊢; exact t.at_ h
theorem All2.set {α β : Type} {R : α -> β -> Prop} {a : α} {b : β} (r : R a b) : ∀ {l : List α} {m : List β} (i : Nat),All2 R l m -> All2 R (l.set i a) (m.set i b)
  | _,_,_, .nil => .nil
  | _,_,0, .cons _ t => .cons r t
  | _,_,i + 1, .cons h t => .cons h (t.set r i)
theorem All2.setMany {R : D -> D -> Prop} : ∀ {xs ys : List D} {c d : List D} (o : Nat),All2 R xs ys -> All2 R c d -> All2 R (setMany c o xs) (setMany d o ys)
  | _,_,_,_,_, .nil,h => h
  | _,_,_,_,o, .cons r t,h => by simp only [Go.V.setMany]; exact t.setMany (o + 1) (h.set r o)
theorem All2.same {R : D -> D -> Prop} : ∀ {l : List D},(∀ d ∈ l,R d d) -> All2 R l l
  | [],_ => .nil
  | d :: l,h => .cons (h d (List.mem_cons_self ..)) (All2.same fun x hx => h x (List.mem_cons_of_mem _ hx))
theorem Has.drows {j : Nat} {x : D} {s : Nat} {bb : Bool} {ks : Nat -> Prop} {vs : List (List D)} (hH : Has N S st H) (hj : H[j]? = some (.deepG bb ks x s vs)) : ∃ es,Rows st s x es /\ es.length = vs.length := by
  obtain ⟨⟨es,h1,h2⟩,_⟩ := (hH.ok j _ hj).1
  exact ⟨es,h1.rows,h2.len⟩
theorem Has.dset {j k ver off len s : Nat} {bb : Bool} {ks : Nat -> Prop} {vs : List (List D)} {i o : Nat} {v cs : List D} (h : Has N S st H) (hj : H[j]? = some (.deepG bb ks (.win k ver off len s) s vs)) (hi : vs[i]? = some v) (hl : o + cs.length <= s) (hp : ∀ d ∈ cs,plainC d = true) (hw : S.flr <= N \/ refs cs = 0) (hp2 : (cs.all (fun d => !(isSlD d)) || bb) = true) :
    ∃ st',st.wr k ver (off + i * s + o) cs = some st' /\ Has N S st' (H.set j (.deepG bb ks (.win k ver off len s) s (vs.set i (setMany v o cs)))) := by
  obtain ⟨⟨es,he1,he2⟩,he3⟩ := (h.ok j _ hj).1
  have hK := (h.ok j _ hj).2
  obtain ⟨e,hei,hev⟩ := he2.at_ hi
  have hH1 : Has N S st [.lst (.win k ver off len s) s es] := by
    refine ⟨h.ex,h.hN,h.hro,fun i e hi => ?_,fun i i' a b hii ha hb k hka hkb => ?_⟩
    · cases i with
      | zero => simp only [List.getElem?_cons_zero,Option.some.injEq] at hi; subst hi; exact ⟨he1,fun k hk => hK k (.inl hk)⟩
      | succ i => simp at hi
    · cases i with
      | zero => cases i' with
        | zero => exact hii rfl
        | succ i' => simp at hb
      | succ i => simp at ha
  obtain ⟨st',q1,q2⟩ := hH1.setElem (j := 0) at0 hei hl hw
  refine ⟨st',q1,?_⟩
  have hown := q2.own (j := 0) at0
  have hch : (∀ n,n ≠ k -> st'.bs[n]? = st.bs[n]?) /\ st.bs.length = st'.bs.length /\ st'.flr = st.flr /\ st'.ro = st.ro := by
    unfold St.wr at q1
    split at q1
    · split at q1
      · cases q1
        exact ⟨fun n hn => by simp only; rw [List.getElem?_set_ne (fun e => hn e.symm)],by simp,rfl,rfl⟩
      · cases q1
    · cases q1
  obtain ⟨c1,c2,c3,c4⟩ := hch
  have hkk := hK k (.inl (by simp only [D.ref]))
  have hne : ∀ n,ks n -> n ≠ k := fun n hn e => he3 k (by simp only [D.ref]) (e ▸ hn)
  have hmove : ∀ n,ks n -> st'.bs[n]? = st.bs[n]? := fun n hn => c1 n (hne n hn)
  refine h.upd hj (fun n hn hnot => c1 n fun e => hnot (.inl (by simp only [D.ref]; omega))) (Nat.le_of_eq c2) c3 c4 ⟨⟨_,hown,?_⟩,he3⟩ (fun n hn => .inl hn) fun n hn => ?_
  · refine All2.set ?_ i (he2.mono fun a b => All2.mono fun c d => DeepG.move hmove)
    exact (All2.same fun d hd => .plain d (hp d hd) (by cases bb with | true => simp | false => simp only [Bool.or_false,List.all_eq_true] at hp2 ⊢; exact hp2 d hd)).setMany o (hev.mono fun c d => DeepG.move hmove)
  · rw [<- c2]; exact (hK n hn).2
variable {P : Pv} {ops : Array Oper} {rest : List Oper} {fr fr' : Fr} {Q : Fr -> St -> Prop} {ty : TypeId} {pp : String} {a : Array Edge} {g : Option (Nat × Bool)} {dst : Nat}
theorem EvO.dlen {t e : TypeId} {xo : Operand} {x : D} {s j : Nat} {bb : Bool} {ks : Nat -> Prop} {vs : List (List D)} (hH : Has N S st H) (hg : wantD ops fr ⟨some dst, .call ⟨.builtin .len, #[xo], #[t]⟩,ty,pp,a,g⟩ = some true) (hx : fr.ev xo = x) (hj : H[j]? = some (.deepG bb ks x s vs)) (ht : P.und t = some (.slice e)) (hp : fr.put dst (.int .i64 (vs.length : Nat)) = fr')
    (h : EvO P ops rest fr' st Q) : EvO P ops (⟨some dst, .call ⟨.builtin .len, #[xo], #[t]⟩,ty,pp,a,g⟩ :: rest) fr st Q := by
  obtain ⟨es,h1,h2⟩ := hH.drows hj
  exact EvO.rlen hg hx h1 ht (by rw [h2]; exact hp) h
theorem EvO.didx {t e : TypeId} {xo io : Operand} {x : D} {s i j : Nat} {kk : IntKind} {bb : Bool} {ks : Nat -> Prop} {vs : List (List D)} {fr' : D -> Fr} (hH : Has N S st H) (hg : wantD ops fr ⟨some dst, .indexAddr t xo io,ty,pp,a,g⟩ = some true) (hx : fr.ev xo = x) (hi : fr.ev io = .int kk (i : Nat)) (hj : H[j]? = some (.deepG bb ks x s vs)) (ht : P.und t = some (.slice e)) (hs : szOf P e = some s) (hr : i < vs.length) (hp : ∀ p,fr.put dst p = fr' p)
    (h : ∀ p,EPtr x s i 0 p -> EvO P ops rest (fr' p) st Q) : EvO P ops (⟨some dst, .indexAddr t xo io,ty,pp,a,g⟩ :: rest) fr st Q := by
  obtain ⟨⟨es,he1,he2⟩,he3⟩ := (hH.ok j _ hj).1
  have hlen := he2.len
  cases he1 with
  | nul => simp at hlen; omega
  | win k ver off es c hm hl hc he =>
    refine EvO.go hg rfl (d := .ptr k ver (off + i * s)) (st1 := st) ?_ (hp _) (h _ ⟨k,ver,off,_,rfl,rfl⟩)
    simp only [opD,hx,hi,indexAddrD,ht,hs,Option.bind_some,St.mem_of hm,Option.isSome_some]
    rw [if_pos ⟨trivial,by omega,by omega,trivial⟩]; rfl
theorem EvO.dstore {t : TypeId} {ao vo : Operand} {x y v : D} {s i o j : Nat} {bb : Bool} {ks : Nat -> Prop} {vs : List (List D)} {r cs : List D} (hH : Has N S st H) (hg : wantD ops fr ⟨none, .store t ao vo,ty,pp,a,g⟩ = some true) (ha : fr.ev ao = y) (hv : fr.ev vo = v) (hR : EPtr x s i o y) (hcs : v.cells? = some cs) (hs : szOf P t = some cs.length) (hj : H[j]? = some (.deepG bb ks x s vs)) (hr : vs[i]? = some r) (hl : o + cs.length <= s) (hq : ∀ d ∈ cs,plainC d = true) (hw : S.flr <= N \/ refs cs = 0)
    (h : ∀ st',Has N S st' (H.set j (.deepG bb ks x s (vs.set i (setMany r o cs)))) -> EvO P ops rest fr st' Q) (hq2 : (cs.all (fun d => !(isSlD d)) || bb) = true := by rfl) : EvO P ops (⟨none, .store t ao vo,ty,pp,a,g⟩ :: rest) fr st Q := by
  obtain ⟨k,ver,off,len,rfl,rfl⟩ := hR
  obtain ⟨st',h1,h2⟩ := hH.dset hj hr hl hq hw hq2
  refine EvO.N hg rfl (d := .tup []) (st1 := st') ?_ (h _ h2)
  simp only [opD,ha,hv,storeD,hcs,hs,if_pos trivial,h1]; rfl
theorem EvC.cutW {dy : Dy} {i : Nat} {l : List Oper} {d n loc tmp st} {Q : Out -> Fr -> St -> Prop} (ws : List Nat) (F : (Nat -> D) -> Prop)
    (h1 : EvO P l.toArray l ⟨n,loc, []⟩ st fun fr' st' => ∃ f tmp,fr' = ⟨n,setW loc ws f,tmp⟩ /\ st' = st /\ F f) (h2 : ∀ f tmp,F f -> Q .next ⟨n,setW loc ws f,tmp⟩ st) (h0 : lookDy i dy = [] := by rfl) : EvC P dy (.region i l.toArray d) ⟨n,loc,tmp⟩ st Q := by
  refine EvC.reg ?_ h0
  unfold EvO at h1 ⊢
  obtain ⟨fr',st',h3,f,tmp',rfl,rfl,h4⟩ := h1
  exact ⟨_,_,h3,h2 _ _ h4⟩
theorem leafW {n : Nat} {L loc : List D} {tmp0 : List (Nat × D)} {ws : List Nat} {F : (Nat -> D) -> Prop} {st : St} (h : L = setW loc ws (fun k => nth .junk L k)) (h2 : F (fun k => nth .junk L k)) : ∃ (f : Nat -> D) (tmp : List (Nat × D)),(⟨n,L,tmp0⟩ : Fr) = ⟨n,setW loc ws f,tmp⟩ /\ st = st /\ F f := ⟨_,tmp0,by rw [<- h],rfl,h2⟩
theorem EvO.minZ {t1 t2 : TypeId} {xo yo : Operand} {x y z : Int} (hg : wantD ops fr ⟨some dst, .call ⟨.builtin .min, #[xo,yo], #[t1,t2]⟩,ty,pp,a,g⟩ = some true) (hx : fr.ev xo = .int .i64 x) (hy : fr.ev yo = .int .i64 y) (hz : min x y = z) (hp : fr.put dst (.int .i64 z) = fr') (h : EvO P ops rest fr' st Q) : EvO P ops (⟨some dst, .call ⟨.builtin .min, #[xo,yo], #[t1,t2]⟩,ty,pp,a,g⟩ :: rest) fr st Q :=
  EvO.minS (t1 := t1) (t2 := t2) hg hx hy (by rw [hz]; exact hp) h
theorem Has.leaveRwL {N : Nat} {S s0 S2 st2 : St} {H : List Ent} {x : D} {s : Nat} {es es' : List (List D)} (h : Has N S s0 (.lst x s es :: H)) (hS : S2.bs = s0.bs) (h2 : Has N S2 st2 (.lst x s es' :: H)) : Has N S ⟨st2.bs.take s0.bs.length,s0.flr,s0.ro⟩ (.lst x s es' :: H) := by
  refine h.leaveRw hS h2 fun i e hi => ?_
  cases i with
  | zero => simp only [List.getElem?_cons_zero,Option.some.injEq] at hi; subst hi; exact ⟨_,rfl,fun k hk => hk⟩
  | succ i => exact ⟨e,hi,fun k hk => hk⟩
theorem Has.leaveRwD {N : Nat} {S s0 S2 st2 : St} {H : List Ent} {k : Nat} {b b' : Box} {bb : Bool} {ks : Nat -> Prop} {x : D} {s : Nat} {vs vs' : List (List D)} (h : Has N S s0 (.box k b :: .deepG bb ks x s vs :: H)) (hS : S2.bs = s0.bs) (h2 : Has N S2 st2 (.box k b' :: .deepG bb ks x s vs' :: H)) : Has N S ⟨st2.bs.take s0.bs.length,s0.flr,s0.ro⟩ (.box k b' :: .deepG bb ks x s vs' :: H) := by
  refine h.leaveRw hS h2 fun i e hi => ?_
  match i with
  | 0 => simp only [List.getElem?_cons_zero,Option.some.injEq] at hi; subst hi; exact ⟨_,rfl,fun k hk => hk⟩
  | 1 => simp only [List.getElem?_cons_succ,List.getElem?_cons_zero,Option.some.injEq] at hi; subst hi; exact ⟨_,rfl,fun k hk => hk⟩
  | i + 2 => exact ⟨e,hi,fun k hk => hk⟩
theorem Has.rot5 {N : Nat} {S st : St} {H : List Ent} {a b c d e : Ent} (h : Has N S st (a :: b :: c :: d :: e :: H)) : Has N S st (b :: c :: d :: e :: a :: H) := by
  refine h.sub (fun i => if i = 4 then 0 else if i < 4 then i + 1 else i) (fun i j hij => ?_) (fun i x hi => ?_)
  · try simp only at hij
    split at hij <;> split at hij <;> (try split at hij) <;> (try split at hij) <;> omega
  · match i,hi with
    | 0,hi => exact hi
    | 1,hi => exact hi
    | 2,hi => exact hi
    | 3,hi => exact hi
    | 4,hi => exact hi
    | i + 5,hi =>
      have h1 : ¬ (i + 5 = 4) := by omega
      have h2 : ¬ (i + 5 < 4) := by omega
      simp only [if_neg h1,if_neg h2]
      exact hi
theorem Has.resCellTT {fr : Fr} {a k ver off j u u2 : Nat} {t : TypeId} {ar : Bool} {c : List D} {d e e2 : D} (hH : Has N S st H) (ha : fr.get a = .ptr k ver off) (hj : H[j]? = some (.box k (.mem ver ar c))) (hd : takeD P t (c.drop off) = some d) (he : fr.get u = e) (he2 : fr.get u2 = e2) : resD P fr st [.cell a t, .tmp u, .tmp u2] = some [d,e,e2] := by
  simp only [resD,loadD,ha,St.mem_of (hH.at hj),Option.bind_some,hd,Option.map_some,he,he2]
theorem EvC.merge3 {dy : Dy} {c1 c2 : Code} {fr : Fr} {st : St} {Q : Out -> Fr -> St -> Prop} (M : Fr -> St -> Prop) (h1 : EvC P dy c1 fr st (SeqQ P dy c2 (MergeQ M Q))) (h2 : ∀ fr' st',M fr' st' -> Q .next fr' st') : EvC P dy c1 fr st (SeqQ P dy c2 Q) :=
  h1.mono fun o fr' st' h => by
    cases o with
    | next => exact EvC.merge M h h2
    | exit i => exact h
    | ret => exact h
end Go.V
namespace Go.Proofs.Ytapfahlbkhgdpaa
open Go.V Go
theorem freeze_kn {st : St} {L n : Nat} {kn : Bool} {k ver off len s : Nat} : freezeD st L kn n (.win k ver off len s) = freezeD st L false n (.win k ver off len s) := by
 cases n <;> rfl
theorem frz_range (l : List Rg) : (l.map rangeC).map (·.map frzC) = l.map rangeC := by
 rw [List.map_map]; rfl
theorem tell_range (l : List Rg) : ∀ e ∈ l.map rangeC, ∀ d ∈ e,tellC d = true := by
 intro e he d hd;obtain ⟨x,_,rfl⟩ := List.mem_map.1 he;simp only [rangeC,List.mem_cons,List.not_mem_nil,or_false] at hd
 rcases hd with rfl | rfl <;> rfl
theorem has_freezeR {N L j : Nat} {S st : St} {H : List Ent} {x : D} {l : List Rg} (hH : Has N S st H) (hj : H[j]? = some (.lst x 2 (l.map rangeC))) (hx : ∀ k,x.ref = k + 1 -> L <= k) {n : Nat} (hn : 3 <= n) : freezeD st L false n x = some (rangesV l) := by
 rw [hH.freezeT hj hx (tell_range l) hn,frz_range,rangesV_el]
theorem skip_i {gs : List (Nat × Nat)} {s : Prs} {r : Int} : (skipS gs s r).o = s.o /\ (skipS gs s r).g = s.g /\ (skipS gs s r).e = s.e /\ s.i <= (skipS gs s r).i /\ (s.i <= gs.length -> (skipS gs s r).i <= gs.length) := by
 unfold skipS
 split
 ·rename_i h;have := isS_lt h;exact ⟨rfl,rfl,rfl,by show s.i <= s.i + 1; omega,fun _ => by show s.i + 1 <= _; omega⟩
 ·exact ⟨rfl,rfl,rfl,Nat.le_refl _,fun h => h⟩
end Go.Proofs.Ytapfahlbkhgdpaa
namespace Go.Proofs.Ytapfahlbkhgdpaa
open Go.V Go
def NdV (n : Nod) : Prop := n.rd = rangesV n.rs /\ n.rs.length <= 1048576 /\ n.kids <= 1048576
def mkNd (op mn mx : Int) (lz : Bool) (cap kids : Int) (a : List Rg) : Nod := ⟨op,rangesV a,a,mn,mx,lz,cap,kids⟩
def nlD (l : List Nod) : D := .sl ((l.map nodC).map (elD 7))
theorem nod_len (l : List Nod) : ∀ e ∈ l.map nodC,e.length = 7 := by
 intro e he; obtain ⟨x,_,rfl⟩ := List.mem_map.1 he; rfl
theorem nod_plain {l : List Nod} (h : ∀ n ∈ l,NdV n) : ∀ e ∈ l.map nodC, ∀ d ∈ e,plainC d = true := by
 intro e he d hd;obtain ⟨n,hn,rfl⟩ := List.mem_map.1 he;have hr := (h n hn).1;simp only [nodC,hr,List.mem_cons,List.not_mem_nil,or_false] at hd
 rcases hd with rfl | rfl | rfl | rfl | rfl | rfl | rfl <;> rfl
theorem nl_sl {l : List Nod} (h : ∀ n ∈ l,NdV n) : SlD (nlD l) 7 (l.map nodC) := SlD.frozen (nod_len l) (nod_plain h)
theorem nl_ok {l : List Nod} (h : ∀ n ∈ l,NdV n) (hl : l.length <= 1048576) : (⟨nlD l,l⟩ : Nl).ok := by
 refine ⟨nl_sl h,fun n hn => ?_,hl⟩;obtain ⟨h1,h2,h3⟩ := h n hn;exact ⟨by rw [h1]; exact ranges_sl _,h2,by omega⟩
theorem nod_frz {l : List Nod} (h : ∀ n ∈ l,NdV n) : (l.map nodC).map (·.map frzC) = l.map nodC := by
 rw [List.map_map];refine List.map_congr_left fun n hn => ?_;have hr := (h n hn).1;show (nodC n).map frzC = nodC n;unfold nodC;rw [hr]; rfl
theorem nod_tell {l : List Nod} (h : ∀ n ∈ l,NdV n) : ∀ e ∈ l.map nodC, ∀ d ∈ e,tellC d = true := by
 intro e he d hd;have := nod_plain h e he d hd
 cases d <;> first | rfl | exact this
theorem has_freezeN {N L j : Nat} {S st : St} {H : List Ent} {x : D} {es : List (List D)} {l : List Nod} (hH : Has N S st H) (hj : H[j]? = some (.lst x 7 es)) (he : es.map (·.map frzC) = l.map nodC) (ht : ∀ e ∈ es, ∀ d ∈ e,tellC d = true) (hx : ∀ k,x.ref = k + 1 -> L <= k) {n : Nat} (hn : 3 <= n) : freezeD st L false n x = some (nlD l) := by
 rw [hH.freezeT hj hx ht hn,he]; rfl
theorem has_freeze1 {N L j : Nat} {S st : St} {H : List Ent} {x w : D} {op mn mx cap kids : Int} {lz : Bool} {a : List Rg} (hH : Has N S st H) (hj : H[j]? = some (.lst x 7 [[.int .i64 op,w, .int .i64 mn, .int .i64 mx, .bool lz, .int .i64 cap, .int .i64 kids]])) (hw : w = rangesV a \/ w = .nul /\ a = []) (hx : ∀ k,x.ref = k + 1 -> L <= k) : freezeD st L false 16 x = some (nlD [mkNd op mn mx lz cap kids a]) := by
 refine has_freezeN hH hj ?_ (fun e he d hd => ?_) hx (by decide)
 ·rcases hw with rfl | ⟨rfl,rfl⟩ <;> rfl
 ·simp only [List.mem_cons,List.not_mem_nil,or_false] at he;subst he;simp only [List.mem_cons,List.not_mem_nil,or_false] at hd
  rcases hw with rfl | ⟨rfl,rfl⟩ <;> rcases hd with rfl | rfl | rfl | rfl | rfl | rfl | rfl <;> rfl
theorem mk_v {op mn mx cap kids : Int} {lz : Bool} {a : List Rg} (h : a.length <= 1048576) (hk : kids <= 1048576) : ∀ n ∈ [mkNd op mn mx lz cap kids a],NdV n := by
 intro n hn;simp only [List.mem_cons,List.not_mem_nil,or_false] at hn;subst hn;exact ⟨rfl,h,hk⟩
end Go.Proofs.Ytapfahlbkhgdpaa
namespace Go.Proofs.Ytapfahlbkhgdpaa
open Go.V Go
def MoveP (gs : List (Nat × Nat)) (s s' : Prs) : Prop := s'.o = s.o /\ s'.g = s.g /\ s.i < s'.i /\ s'.i <= gs.length
end Go.Proofs.Ytapfahlbkhgdpaa
namespace Go.Proofs.Ytapfahlbkhgdpaa
open Go.V Go
theorem refs_plain : ∀ {l : List D},(∀ d ∈ l,plainC d = true) -> refs l = 0
 | [],_ => rfl
 | d :: l,h => by
  have h1 := refs_plain (l := l) fun d hd => h d (List.mem_cons_of_mem _ hd);have h2 := h d (List.mem_cons_self ..)
  have h3 : d.ref = 0 := by cases d <;> first | rfl | (simp [plainC] at h2)
  simp only [refs,h1,h3,Nat.max_self]
theorem nod_refs0 {l : List Nod} (h : ∀ n ∈ l,NdV n) : refs (l.map nodC).flatten = 0 :=
 refs_plain fun d hd => by
  obtain ⟨e,he,hd'⟩ := List.mem_flatten.1 hd;exact nod_plain h e he d hd'
def partC (l : List Nod) : List D := [nlD l]
theorem part_get {l : List (List Nod)} {i : Nat} {q : List Nod} (h : l[i]? = some q) : (l.map partC)[i]? = some (partC q) := by rw [List.getElem?_map,h]; rfl
def sumL : List (List Nod) -> Nat
 | [] => 0
 | l :: ls => l.length + sumL ls
theorem sumL_append : ∀ a b : List (List Nod),sumL (a ++ b) = sumL a + sumL b
 | [],b => by simp [sumL]
 | l :: a,b => by rw [List.cons_append,sumL,sumL,sumL_append a b]; omega
end Go.Proofs.Ytapfahlbkhgdpaa
namespace Go.Proofs.Ytapfahlbkhgdpaa
open Go.V Go
theorem Has_rot3 {N : Nat} {S st : St} {H : List Ent} {a b c : Ent} (h : Has N S st (a :: b :: c :: H)) : Has N S st (b :: c :: a :: H) := by
 have h1 := h.front at1;have h2 := h1.front at2;exact h2.front at1
end Go.Proofs.Ytapfahlbkhgdpaa
namespace Go.Proofs.Ytapfahlbkhgdpaa
open Go.V Go
theorem skip_no {gs : List (Nat × Nat)} {s : Prs} {r : Int} (h : isS gs s.i r = false) : skipS gs s r = s := by
 unfold skipS; rw [if_neg (by rw [h]; simp)]
theorem skip_yes {gs : List (Nat × Nat)} {s : Prs} {r : Int} (h : isS gs s.i r = true) : (skipS gs s r).i = s.i + 1 := by
 unfold skipS; rw [if_pos h]
end Go.Proofs.Ytapfahlbkhgdpaa
namespace Go.Proofs.Ytapfahlbkhgdpaa
open Go.V Go
end Go.Proofs.Ytapfahlbkhgdpaa
namespace Go.Proofs.Ytapfahlbkhgdpaa
open Go.V Go
theorem allS_len : ∀ (n : Nat) (b : List UInt8),b.length <= n -> (allS b).length <= b.length /\ ∀ g ∈ allS b,g.2 <= b.length := by
 intro n
 induction n with
 | zero =>
  intro b hb;have : b = [] := List.length_eq_zero_iff.1 (by omega);subst this;rw [allS_nil]; exact ⟨Nat.le_refl _,fun g hg => by cases hg⟩
 | succ n ih =>
  intro b hb
  by_cases h : b = []
  ·subst h; rw [allS_nil]; exact ⟨Nat.le_refl _,fun g hg => by cases hg⟩
  ·have hp := oneS_pos b;have hl := oneS_le h;obtain ⟨h1,h2⟩ := ih (b.drop (oneS b).2) (by rw [List.length_drop]; omega);rw [List.length_drop] at h1 h2;rw [allS_cons h];refine ⟨by rw [List.length_cons]; omega,fun g hg => ?_⟩
   rcases List.mem_cons.1 hg with rfl | hg
   ·exact hl
   ·have := h2 g hg; omega
end Go.Proofs.Ytapfahlbkhgdpaa
namespace Go.Proofs.Ytapfahlbkhgdpaa
open Go.V Go
end Go.Proofs.Ytapfahlbkhgdpaa
namespace Go.Proofs.Ytapfahlbkhgdpaa
open Go.V Go
def plainN (n : Nod) : Bool := ((n.op == 2) || ((n.rs.length : Nat) : Int) == 0) && ((n.op == 5) || ((n.mn == 0) && (n.mx == 0) && !n.lz)) && ((n.op == 6) || (n.cap == 0))
noncomputable def shapeN (n : Nod) (g : Int) : Int × Bool :=
  if plainN n = false then (0,false)
  else if n.op = 1 \/ n.op = 7 \/ n.op = 8 then (0,n.kids == 0)
  else if n.op = 2 then (0,(n.kids == 0) && rightS n.rs)
  else if n.op = 3 \/ n.op = 4 then (n.kids,decide (n.kids >= 2))
  else if n.op = 5 then (1,(n.kids == 1) && decide (n.mn >= 0) && decide (n.mn <= 30) && ((n.mx == -1) || (decide (n.mx >= n.mn) && decide (n.mx <= 30))))
  else if n.op = 6 then (1,(n.kids == 1) && (n.cap == g + 1) && decide (n.cap <= 4))
  else (0,false)
def kidsS (h : Nat -> Nat -> Option (Nat × Nat)) : Nat -> Nat -> Nat -> Option (Nat × Nat)
  | 0,at_,g => some (at_,g)
  | k + 1,at_,g => match h at_ g with
    | some r => kidsS h k r.1 r.2
    | none => none
noncomputable def oneW (l : List Nod) : Nat -> Nat -> Nat -> Option (Nat × Nat)
  | 0,_,_ => none
  | f + 1,at_,g => match l[at_]? with
    | none => none
    | some n => if (shapeN n (g : Nat)).2 = true then kidsS (oneW l f) (shapeN n (g : Nat)).1.toNat (at_ + 1) (if n.op = 6 then g + 1 else g) else none
theorem shape_ok {n : Nod} {g : Nat} (h : (shapeN n (g : Nat)).2 = true) : nodOk n (shapeN n (g : Nat)).1.toNat /\ 0 <= (shapeN n (g : Nat)).1 /\ (n.op = 6 -> n.cap = g + 1 /\ n.cap <= 4) := by
  unfold shapeN at h ⊢
  unfold nodOk
  by_cases h0 : plainN n = false
  · rw [if_pos h0] at h; cases h
  rw [if_neg h0] at h ⊢
  by_cases h1 : n.op = 1 \/ n.op = 7 \/ n.op = 8
  · rw [if_pos h1] at h ⊢
    simp only [beq_iff_eq] at h
    exact ⟨⟨h, .inl ⟨h1,rfl⟩⟩,Int.le_refl _,fun h6 => by omega⟩
  rw [if_neg h1] at h ⊢
  by_cases h2 : n.op = 2
  · rw [if_pos h2] at h ⊢
    simp only [Bool.and_eq_true,beq_iff_eq] at h
    exact ⟨⟨h.1, .inr (.inl ⟨h2,rfl⟩)⟩,Int.le_refl _,fun h6 => by omega⟩
  rw [if_neg h2] at h ⊢
  by_cases h3 : n.op = 3 \/ n.op = 4
  · rw [if_pos h3] at h ⊢
    simp only [decide_eq_true_eq] at h
    exact ⟨⟨by simp only; omega, .inr (.inr (.inl ⟨h3,by simp only; omega⟩))⟩,by simp only; omega,fun h6 => by omega⟩
  rw [if_neg h3] at h ⊢
  by_cases h5 : n.op = 5
  · rw [if_pos h5] at h ⊢
    simp only [Bool.and_eq_true,Bool.or_eq_true,beq_iff_eq,decide_eq_true_eq] at h
    exact ⟨⟨by simp only; omega, .inr (.inr (.inr (.inl ⟨h5,by simp only; rfl,by omega,by omega,by omega⟩)))⟩,by simp only; omega,fun h6 => by omega⟩
  rw [if_neg h5] at h ⊢
  by_cases h6 : n.op = 6
  · rw [if_pos h6] at h ⊢
    simp only [Bool.and_eq_true,beq_iff_eq,decide_eq_true_eq] at h
    exact ⟨⟨by simp only; omega, .inr (.inr (.inr (.inr ⟨h6,by simp only; rfl,by omega,by omega⟩)))⟩,by simp only; omega,fun _ => ⟨h.1.2,h.2⟩⟩
  rw [if_neg h6] at h
  cases h
theorem Seg.cons {α : Type} {L M : List α} {a : α} {at_ : Nat} (h : L[at_]? = some a) (h2 : Seg L (at_ + 1) M) : Seg L at_ (a :: M) := by
  obtain ⟨post,h2⟩ := h2
  refine ⟨post,?_⟩
  have h3 : L[at_]'(lt_get h) = a := Option.some.inj ((List.getElem?_eq_getElem _).symm.trans h)
  rw [List.drop_eq_getElem_cons (lt_get h),h2,h3]; rfl
theorem Seg.append {α : Type} {L M M' : List α} {at_ : Nat} (h : Seg L at_ M) (h2 : Seg L (at_ + M.length) M') : Seg L at_ (M ++ M') := by
  obtain ⟨post,h⟩ := h
  obtain ⟨post',h2⟩ := h2
  refine ⟨post',?_⟩
  rw [<- List.drop_drop,h,List.drop_left] at h2
  rw [h,h2,List.append_assoc]
theorem Seg.none {α : Type} (L : List α) (at_ : Nat) : Seg L at_ [] := ⟨_,rfl⟩
theorem kids_tree {l : List Nod} {h : Nat -> Nat -> Option (Nat × Nat)} (ih : ∀ at_ g r,h at_ g = some r -> ∃ t : Tr,t.ok /\ Seg l at_ t.flat /\ r.1 = at_ + t.flat.length) : ∀ k at_ g r,kidsS h k at_ g = some r -> ∃ ts : Trs,ts.len = k /\ ts.ok /\ Seg l at_ ts.flat /\ r.1 = at_ + ts.flat.length
  | 0,at_,g,r,e => by
    simp only [kidsS,Option.some.injEq] at e
    subst e
    exact ⟨.nil,rfl,trivial,Seg.none _ _,by simp [Trs.flat]⟩
  | k + 1,at_,g,r,e => by
    unfold kidsS at e
    cases hq : h at_ g with
    | none => rw [hq] at e; cases e
    | some q =>
      rw [hq] at e
      obtain ⟨t,t1,t2,t3⟩ := ih _ _ _ hq
      obtain ⟨ts,u1,u2,u3,u4⟩ := kids_tree ih k _ _ _ e
      rw [t3] at u3 u4
      exact ⟨.cons t ts,by simp [Trs.len,u1],by simp only [Trs.ok]; exact ⟨t1,u2⟩,by simp only [Trs.flat]; exact t2.append u3,by rw [u4]; simp only [Trs.flat,List.length_append]; omega⟩
theorem one_tree {l : List Nod} : ∀ f at_ g r,oneW l f at_ g = some r -> ∃ t : Tr,t.ok /\ Seg l at_ t.flat /\ r.1 = at_ + t.flat.length
  | 0,_,_,_,e => by simp [oneW] at e
  | f + 1,at_,g,r,e => by
    unfold oneW at e
    cases hn : l[at_]? with
    | none => rw [hn] at e; cases e
    | some n =>
      rw [hn] at e
      simp only at e
      split at e
      · rename_i hs
        obtain ⟨ts,u1,u2,u3,u4⟩ := kids_tree (one_tree f) _ _ _ _ e
        have := (shape_ok hs).1
        rw [<- u1] at this
        exact ⟨.mk n ts,by simp only [Tr.ok]; exact ⟨this,u2⟩,by simp only [Tr.flat]; exact Seg.cons hn u3,by rw [u4]; simp only [Tr.flat,List.length_cons]; omega⟩
      · cases e
noncomputable def rightN (l : List Nod) : Bool := (decide (1 <= l.length) && decide (l.length <= 480)) && (match oneW l 241 0 0 with | some r => decide (r.1 = l.length) | none => false)
theorem right_tree {l : List Nod} (h : rightN l = true) : ∃ t : Tr,t.ok /\ t.flat = l := by
  unfold rightN at h
  simp only [Bool.and_eq_true] at h
  obtain ⟨_,h⟩ := h
  split at h
  · rename_i r hr
    obtain ⟨t,h1,⟨post,h2⟩,h3⟩ := one_tree _ _ _ _ hr
    rw [decide_eq_true_eq] at h
    refine ⟨t,h1,?_⟩
    rw [List.drop_zero] at h2
    have h4 := congrArg List.length h2
    rw [List.length_append] at h4
    have h5 : post = [] := List.length_eq_zero_iff.1 (by omega)
    rw [h2,h5,List.append_nil]
  · cases h
noncomputable def treeN (l : List Nod) : Tr := @dite _ (∃ t : Tr,t.ok /\ t.flat = l) (Classical.propDecidable _) (fun h => Classical.choose h) (fun _ => .mk ⟨0, .nul, [],0,0,false,0,0⟩ .nil)
theorem tree_is {l : List Nod} (h : rightN l = true) : (treeN l).ok /\ (treeN l).flat = l := by
  unfold treeN
  rw [dif_pos (right_tree h)]
  exact Classical.choose_spec (right_tree h)
end Go.Proofs.Ytapfahlbkhgdpaa
namespace Go.Proofs.Ytapfahlbkhgdpaa
open Go.V Go
theorem cap_nod {n : Nod} {k s : Nat} : min (nodSz n (min s 401) k) 401 = min (nodSz n s k) 401 := by
  by_cases hs : s <= 401
  · rw [Nat.min_eq_left hs]
  · have hx : min s 401 = 401 := by omega
    rw [hx]
    unfold nodSz
    split
    · rfl
    · split
      · omega
      · split
        · omega
        · split
          · split
            · omega
            · by_cases h0 : n.mn.toNat = 0
              · rw [h0]
                by_cases hd : n.mx.toNat - 0 = 0
                · rw [hd]; simp
                · have h1 := Nat.le_mul_of_pos_left (401 + 1) (show 0 < n.mx.toNat - 0 by omega)
                  have h2 := Nat.le_mul_of_pos_left (s + 1) (show 0 < n.mx.toNat - 0 by omega)
                  omega
              · have h1 := Nat.le_mul_of_pos_left 401 (show 0 < n.mn.toNat by omega)
                have h2 := Nat.le_mul_of_pos_left s (show 0 < n.mn.toNat by omega)
                omega
          · omega
def ruleC (t : Tr) (b r : Nat) : List PIns := mkI 4 0 0 [] :: (codeT t (b + 1) ++ [mkI 4 1 0 [],mkI 7 (r : Nat) 0 []])
theorem ruleC_len {t : Tr} {b r : Nat} (h : t.ok) : (ruleC t b r).length = t.sz + 3 := by
  unfold ruleC
  rw [List.length_cons,List.length_append,codeT_len t _ h]; rfl
structure CompR where
  code : List PIns
  starts : List Int
  e : Int
  w : Int
noncomputable def compS : List (List Nod) -> Nat -> List PIns -> List Int -> CompR
  | [],_,c,s => ⟨c,s,0,0⟩
  | l :: ls,r,c,s => if rightN l = false then ⟨[], [],1,(r : Nat)⟩ else if 400 < c.length + min (treeN l).sz 401 + 3 then ⟨[], [],12,(r : Nat)⟩ else compS ls (r + 1) (c ++ ruleC (treeN l) c.length r) (s ++ [((c.length : Nat) : Int)])
noncomputable def compileS (rules : List (List Nod)) : CompR := if 8 < rules.length then ⟨[], [],13,8⟩ else compS rules 0 [] []
def pgV (code : List PIns) (starts : List Int) : Pg := ⟨.sl ((code.map insC).map (elD 4)),code,intsV starts,starts⟩
def InsV (i : PIns) : Prop := i.rd = .sl ((i.rs.map rangeC).map (elD 2)) /\ i.rs.length <= 1048576
theorem mkI_v (op x y : Int) : InsV (mkI op x y []) := ⟨rfl,by simp [mkI]⟩
theorem mkI_r (op x y : Int) {rs : List Rg} (h : rs.length <= 1048576) : InsV (mkI op x y rs) := ⟨rfl,h⟩
theorem spI_v (s o : Nat) (lz : Bool) : InsV (spI s o lz) := by unfold spI; split <;> exact mkI_v _ _ _
theorem jpI_v (e : Nat) : InsV (jpI e) := mkI_v _ _ _
theorem insV_plain {code : List PIns} (h : ∀ i ∈ code,InsV i) : ∀ e ∈ code.map insC, ∀ d ∈ e,plainC d = true := by
  intro e he d hd
  obtain ⟨q,hq,rfl⟩ := List.mem_map.1 he
  have hr := (h q hq).1
  simp only [insC,hr,List.mem_cons,List.not_mem_nil,or_false] at hd
  rcases hd with rfl | rfl | rfl | rfl <;> rfl
theorem ins_len (code : List PIns) : ∀ e ∈ code.map insC,e.length = 4 := by
  intro e he; obtain ⟨q,_,rfl⟩ := List.mem_map.1 he; rfl
theorem pgV_ok {code : List PIns} {starts : List Int} (h : ∀ i ∈ code,InsV i) (h1 : code.length <= 1048576) (h2 : starts.length <= 1048576) : (pgV code starts).ok := by
  refine ⟨SlD.frozen (ins_len code) (insV_plain h),intsV_sl _,fun i hi => ?_,h1,h2⟩
  obtain ⟨h3,h4⟩ := h i hi
  refine ⟨?_,h4⟩
  rw [h3]
  exact SlD.frozen (range_len _) (range_plain _)
theorem repC_v {c : Nat -> List PIns} {z : Nat} (hc : ∀ b, ∀ i ∈ c b,InsV i) : ∀ k b, ∀ i ∈ repC c z k b,InsV i
  | 0,b,i,hi => by cases hi
  | k + 1,b,i,hi => by
    simp only [repC] at hi
    rcases List.mem_append.1 hi with hi | hi
    · exact hc b i hi
    · exact repC_v hc k _ i hi
theorem optC_v {sp : Nat -> PIns} {c : Nat -> List PIns} {z : Nat} (hs : ∀ s,InsV (sp s)) (hc : ∀ b, ∀ i ∈ c b,InsV i) : ∀ k b, ∀ i ∈ optC sp c z k b,InsV i
  | 0,b,i,hi => by cases hi
  | k + 1,b,i,hi => by
    simp only [optC] at hi
    rcases List.mem_cons.1 hi with rfl | hi
    · exact hs _
    · rcases List.mem_append.1 hi with hi | hi
      · exact hc _ i hi
      · exact optC_v hs hc k _ i hi
mutual
theorem codeT_v : ∀ (t : Tr) (b : Nat),(∀ n ∈ t.flat,n.rs.length <= 1048576) -> ∀ i ∈ codeT t b,InsV i
  | .mk n ks,b,h,i,hi => by
    simp only [Tr.flat] at h
    have hn := h n (List.mem_cons_self ..)
    have hk : ∀ n ∈ ks.flat,n.rs.length <= 1048576 := fun m hm => h m (List.mem_cons_of_mem _ hm)
    have hc := fun b => catT_v ks b hk
    have ha := fun jp (hj : InsV jp) b => altT_v jp hj ks b hk
    simp only [codeT] at hi
    split at hi
    · simp only [List.mem_cons,List.not_mem_nil,or_false] at hi; subst hi; exact mkI_r _ _ _ hn
    split at hi
    · simp only [List.mem_cons,List.not_mem_nil,or_false] at hi; subst hi; exact mkI_v _ _ _
    split at hi
    · simp only [List.mem_cons,List.not_mem_nil,or_false] at hi; subst hi; exact mkI_v _ _ _
    split at hi
    · exact hc b i hi
    split at hi
    · exact ha _ (jpI_v _) b i hi
    split at hi
    · unfold rptC at hi
      split at hi
      · rcases List.mem_append.1 hi with hi | hi
        · exact repC_v hc _ _ i hi
        · rcases List.mem_cons.1 hi with rfl | hi
          · exact spI_v _ _ _
          · rcases List.mem_append.1 hi with hi | hi
            · exact hc _ i hi
            · simp only [List.mem_cons,List.not_mem_nil,or_false] at hi; subst hi; exact jpI_v _
      · rcases List.mem_append.1 hi with hi | hi
        · exact repC_v hc _ _ i hi
        · exact optC_v (fun s => spI_v _ _ _) hc _ _ i hi
    split at hi
    · rcases List.mem_cons.1 hi with rfl | hi
      · exact mkI_v _ _ _
      · rcases List.mem_append.1 hi with hi | hi
        · exact hc _ i hi
        · simp only [List.mem_cons,List.not_mem_nil,or_false] at hi; subst hi; exact mkI_v _ _ _
    · cases hi
theorem catT_v : ∀ (ts : Trs) (b : Nat),(∀ n ∈ ts.flat,n.rs.length <= 1048576) -> ∀ i ∈ catT ts b,InsV i
  | .nil,b,_,i,hi => by simp [catT] at hi
  | .cons t ts,b,h,i,hi => by
    simp only [Trs.flat] at h
    simp only [catT] at hi
    rcases List.mem_append.1 hi with hi | hi
    · exact codeT_v t b (fun n hn => h n (List.mem_append_left _ hn)) i hi
    · exact catT_v ts _ (fun n hn => h n (List.mem_append_right _ hn)) i hi
theorem altT_v (jp : PIns) (hj : InsV jp) : ∀ (ts : Trs) (b : Nat),(∀ n ∈ ts.flat,n.rs.length <= 1048576) -> ∀ i ∈ altT jp ts b,InsV i
  | .nil,b,_,i,hi => by simp [altT] at hi
  | .cons t ts,b,h,i,hi => by
    simp only [Trs.flat] at h
    have h1 : ∀ n ∈ t.flat,n.rs.length <= 1048576 := fun n hn => h n (List.mem_append_left _ hn)
    have h2 : ∀ n ∈ ts.flat,n.rs.length <= 1048576 := fun n hn => h n (List.mem_append_right _ hn)
    simp only [altT] at hi
    split at hi
    · exact codeT_v t b h1 i hi
    · rcases List.mem_cons.1 hi with rfl | hi
      · exact spI_v _ _ _
      · rcases List.mem_append.1 hi with hi | hi
        · exact codeT_v t _ h1 i hi
        · rcases List.mem_cons.1 hi with rfl | hi
          · exact hj
          · exact altT_v jp hj ts _ h2 i hi
end
theorem ruleC_v {t : Tr} {b r : Nat} (h : ∀ n ∈ t.flat,n.rs.length <= 1048576) : ∀ i ∈ ruleC t b r,InsV i := by
  intro i hi
  unfold ruleC at hi
  rcases List.mem_cons.1 hi with rfl | hi
  · exact mkI_v _ _ _
  · rcases List.mem_append.1 hi with hi | hi
    · exact codeT_v t _ h i hi
    · simp only [List.mem_cons,List.not_mem_nil,or_false] at hi
      rcases hi with rfl | rfl
      · exact mkI_v _ _ _
      · exact mkI_v _ _ _
end Go.Proofs.Ytapfahlbkhgdpaa
namespace Go.Proofs.Ytapfahlbkhgdpaa
open Go.V Go
def ixF_Qd (fr : Go.V.Fr) (k : Nat) : Go.V.D := Go.V.nth .junk fr.loc k
theorem plain_ev {s0 : St} {n : Nod} (hn : n.ok) : Ev pv 52 [.agg (nodC n)] s0 (.bool (plainN n)) s0 := by
 refine Ev.mk1 rfl fi52 rfl rfl rfl ?_;refine zE ?_;obtain ⟨hSb,hF,hH⟩ := ri s0;generalize enterSt .ro s0 = S at *;have hrd := hn.1.arg s0.bs.length S;have hrl := hn.2.1;refine zQ 2 ?_;refine qb hH fun k1 st hk1 hH => ?_;dsimp only [u2,u1,u3,u4,setMany,u5,u6,D.cells,Nat.reduceAdd,nodC] at hH;refine zQ 10 ?_;refine EvC.cutL 2 (.bool (((n.op == 2) || ((n.rs.length : Nat) : Int) == 0) && ((n.op == 5) || ((n.mn == 0) && (n.mx == 0) && !n.lz)) && ((n.op == 6) || (n.cap == 0)))) [] ?_ (fun ff tmp => ?_)
 ·refine zQ 4 ?_;refine EvO.two 10 rfl (fun hg3 => ?_) (fun hg3 => ?_)
  ·refine zQ 8 ?_;refine EvO.two 18 rfl (fun hg11 => ?_) (fun hg11 => ?_)
   ·refine zQ 20 ?_;refine EvO.two 38 rfl (fun hg31 => ?_) (fun hg31 => ?_)
    ·refine zQ 6 ?_;refine EvO.nil (leafL ?_);refine zG ?_
     all_goals (simp [hg3,hg11,hg31]; done)
    ·refine zQ 6 ?_;refine EvO.nil (leafL ?_);refine zG ?_
     all_goals (simp [hg3,hg11,hg31]; done)
   ·refine zQ 4 ?_;refine EvO.two 22 rfl (fun hg15 => ?_) (fun hg15 => ?_)
    ·refine zQ 3 ?_;refine EvO.pickT (wantD_is rfl rfl rfl hg11) rfl hg15 (put_T rfl _) ?_;refine zQ 1 ?_;refine EvO.two 27 rfl (fun hg20 => ?_) (fun hg20 => ?_)
     ·refine zQ 3 ?_;refine EvO.pickT (wantD_is rfl rfl rfl hg11) rfl hg20 (put_T rfl _) ?_;refine zQ 3 ?_;refine EvO.two 34 rfl (fun hg27 => ?_) (fun hg27 => ?_)
      ·refine zQ 4 ?_;refine EvO.two 38 rfl (fun hg31 => ?_) (fun hg31 => ?_)
       ·refine zQ 3 ?_;refine EvO.pickT (wantD_is rfl rfl rfl hg27) rfl hg31 (put_T rfl _) ?_;refine zQ 2 ?_;refine EvO.nil (leafL ?_);refine zG ?_
        all_goals (simp [hg3,hg11,hg15,hg20,hg27,hg31]; done)
       ·refine zQ 3 ?_;refine EvO.pickF (wantD_is rfl rfl rfl hg27) rfl hg31 (put_T rfl _) ?_;refine zQ 2 ?_;refine EvO.nil (leafL ?_);refine zG ?_
        all_goals (simp [hg3,hg11,hg15,hg20,hg27,hg31]; done)
      ·refine zQ 10 ?_;refine EvO.nil (leafL ?_);refine zG ?_
       all_goals (simp [hg3,hg11,hg15,hg20,hg27]; done)
     ·refine zQ 3 ?_;refine EvO.pickF (wantD_is rfl rfl rfl hg11) rfl hg20 (put_T rfl _) ?_;refine zQ 13 ?_;refine EvO.nil (leafL ?_);refine zG ?_
      all_goals (simp [hg3,hg11,hg15,hg20]; done)
    ·refine zQ 3 ?_;refine EvO.pickF (wantD_is rfl rfl rfl hg11) rfl hg15 (put_T rfl _) ?_;refine zQ 18 ?_;refine EvO.nil (leafL ?_);refine zG ?_
     all_goals (simp [hg3,hg11,hg15]; done)
  ·refine zQ 2 ?_;refine qn ?_ (hg := wi hg3);simp only [List.length_map];refine zQ 3 ?_;refine EvO.two 16 rfl (fun hg9 => ?_) (fun hg9 => ?_)
   ·refine zQ 2 ?_;refine EvO.two 18 rfl (fun hg11 => ?_) (fun hg11 => ?_)
    ·refine zQ 13 ?_;refine EvO.pickT (wantD_is rfl rfl rfl hg9) rfl hg11 (put_T rfl _) ?_;refine zQ 6 ?_;refine EvO.two 38 rfl (fun hg31 => ?_) (fun hg31 => ?_)
     ·refine zQ 6 ?_;refine EvO.nil (leafL ?_);refine zG ?_
      all_goals (simp [hg3,hg9,hg11,hg31]; done)
     ·refine zQ 6 ?_;refine EvO.nil (leafL ?_);refine zG ?_
      all_goals (simp [hg3,hg9,hg11,hg31]; done)
    ·refine zQ 4 ?_;refine EvO.two 22 rfl (fun hg15 => ?_) (fun hg15 => ?_)
     ·refine zQ 3 ?_;refine EvO.pickT (wantD_is rfl rfl rfl hg11) rfl hg15 (put_T rfl _) ?_;refine zQ 1 ?_;refine EvO.two 27 rfl (fun hg20 => ?_) (fun hg20 => ?_)
      ·refine zQ 3 ?_;refine EvO.pickT (wantD_is rfl rfl rfl hg11) rfl hg20 (put_T rfl _) ?_;refine EvO.pickF (wantD_is rfl rfl rfl hg9) rfl hg11 (put_T rfl _) ?_;refine zQ 2 ?_;refine EvO.two 34 rfl (fun hg27 => ?_) (fun hg27 => ?_)
       ·refine zQ 4 ?_;refine EvO.two 38 rfl (fun hg31 => ?_) (fun hg31 => ?_)
        ·refine zQ 3 ?_;refine EvO.pickT (wantD_is rfl rfl rfl hg27) rfl hg31 (put_T rfl _) ?_;refine zQ 2 ?_;refine EvO.nil (leafL ?_);refine zG ?_
         all_goals (simp [hg3,hg9,hg11,hg15,hg20,hg27,hg31]; done)
        ·refine zQ 3 ?_;refine EvO.pickF (wantD_is rfl rfl rfl hg27) rfl hg31 (put_T rfl _) ?_;refine zQ 2 ?_;refine EvO.nil (leafL ?_);refine zG ?_
         all_goals (simp [hg3,hg9,hg11,hg15,hg20,hg27,hg31]; done)
       ·refine zQ 10 ?_;refine EvO.nil (leafL ?_);refine zG ?_
        all_goals (simp [hg3,hg9,hg11,hg15,hg20,hg27]; done)
      ·refine zQ 3 ?_;refine EvO.pickF (wantD_is rfl rfl rfl hg11) rfl hg20 (put_T rfl _) ?_;refine EvO.pickF (wantD_is rfl rfl rfl hg9) rfl hg11 (put_T rfl _) ?_;refine zQ 12 ?_;refine EvO.nil (leafL ?_);refine zG ?_
       all_goals (simp [hg3,hg9,hg11,hg15,hg20]; done)
     ·refine zQ 3 ?_;refine EvO.pickF (wantD_is rfl rfl rfl hg11) rfl hg15 (put_T rfl _) ?_;refine zQ 5 ?_;refine EvO.pickF (wantD_is rfl rfl rfl hg9) rfl hg11 (put_T rfl _) ?_;refine zQ 12 ?_;refine EvO.nil (leafL ?_);refine zG ?_
      all_goals (simp [hg3,hg9,hg11,hg15]; done)
   ·refine zQ 28 ?_;refine EvO.nil (leafL ?_);refine zG ?_
    all_goals (simp [hg3,hg9]; done)
 dsimp only [setW,List.foldl,nth,u2,u1];refine EvC.ret ⟨rx,_,rfl,rl hSb hH (rfl)⟩
theorem shaped2_ev {s0 : St} {n : Nod} (hn : n.ok) {g : Nat} (hg : g <= 1048576) : Ev pv 46 [.agg (nodC n), .int .i64 (g : Nat)] s0 (.tup [.int .i64 (shapeN n (g : Nat)).1, .bool (shapeN n (g : Nat)).2]) s0 := by
 refine Ev.mk1 rfl fi46 rfl rfl rfl ?_;refine zE ?_;obtain ⟨hSb,hF,hH⟩ := ri s0;generalize enterSt .ro s0 = S at *;have hrd := hn.1.arg s0.bs.length S;have hrl := hn.2.1;refine zQ 2 ?_;refine qb hH fun k2 st hk2 hH => ?_;dsimp only [u2,u1,u3,u4,setMany,u5,u6,D.cells,Nat.reduceAdd,nodC] at hH;refine zQ 6 ?_;refine EvO.hloadS (m := 7) hH rfl (ev rfl) (by exact at0) (by dsimp only [List.drop_succ_cons,List.drop_zero,List.take_succ_cons,List.take_zero,nodC] <;> rfl) rfl rfl (by dsimp only [Fr.put,u1,u2] <;> rfl) ?_;refine qv (plain_ev hn) ?_;refine zQ 2 ?_;unfold shapeN
 cases hp : plainN n with
 | false =>
  rw [if_pos rfl];refine zQ 6 ?_;refine EvC.ret ⟨rx,_,rfl,rl hSb hH (rfl)⟩
 | true =>
  rw [if_neg (by simp)];refine zQ 15 ?_
  by_cases q1 : n.op = 1
  ·rw [if_pos (.inl q1)];refine qD rfl (by simp [q1]) ?_;refine zQ 1 ?_;refine qD rfl (by simp [q1]) ?_;refine zQ 8 ?_;refine EvC.ret ⟨rx,_,rfl,rl hSb hH (rfl)⟩
  refine qE rfl (by simp [q1]) ?_;refine zQ 5 ?_
  by_cases q7 : n.op = 7
  ·rw [if_pos (.inr (.inl q7))];refine qD rfl (by simp [q7]) ?_;refine zQ 1 ?_;refine qD rfl (by simp [q7]) ?_;refine zQ 8 ?_;refine EvC.ret ⟨rx,_,rfl,rl hSb hH (rfl)⟩
  refine qE rfl (by simp [q7]) ?_;refine zQ 4 ?_
  by_cases q8 : n.op = 8
  ·rw [if_pos (.inr (.inr q8))];refine qD rfl (by simp [q8]) ?_;refine zQ 8 ?_;refine EvC.ret ⟨rx,_,rfl,rl hSb hH (rfl)⟩
  refine qE rfl (by simp [q8]) ?_;rw [if_neg (by omega)];refine zQ 5 ?_;refine zI (fun q2 => ?_) fun q2 => ?_
  ·rw [if_pos q2];refine qq ?_;refine EvC.cutW [4,5] (fun ff => ff 4 = .int .i64 0 /\ ff 5 = .bool ((n.kids == 0) && rightS n.rs)) ?_ (fun ff tmp hff => ?_)
   ·refine zQ 4 ?_;refine EvO.two 23 rfl (fun hg3 => ?_) (fun hg3 => ?_)
    ·refine zQ 2 ?_;refine qv (right_ev (hrd.rows hH) hrl) ?_ (hg := wi hg3);refine zQ 3 ?_;refine EvO.nil (leafW ?_ ?_)
     ·dsimp only [setW,List.foldl,nth,u2,u1]
     ·dsimp only [nth];refine zF ?_;refine ⟨?_,?_⟩ <;> (first | rfl | (simp [hg3]; done) | (simp_all; done) | (simp [hg3]; omega) | (simp_all; omega))
    ·refine zQ 6 ?_;refine EvO.nil (leafW ?_ ?_)
     ·dsimp only [setW,List.foldl,nth,u2,u1]
     ·dsimp only [nth];refine zF ?_;refine ⟨?_,?_⟩ <;> (first | rfl | (simp [hg3]; done) | (simp_all; done) | (simp [hg3]; omega) | (simp_all; omega))
   dsimp only [setW,List.foldl,nth,u2,u1];obtain ⟨hff4,hff5⟩ := hff;rw [hff4,hff5];refine EvC.ret ⟨rx,_,rfl,rl hSb hH (rfl)⟩
  rw [if_neg q2];refine zQ 6 ?_
  by_cases q3 : n.op = 3
  ·rw [if_pos (.inl q3)];refine qD rfl (by simp [q3]) ?_;refine zQ 1 ?_;refine qD rfl (by simp [q3]) ?_;refine zQ 10 ?_;refine EvC.ret ⟨rx,_,rfl,rl hSb hH (rfl)⟩
  refine qE rfl (by simp [q3]) ?_;refine zQ 4 ?_
  by_cases q4 : n.op = 4
  ·rw [if_pos (.inr q4)];refine qD rfl (by simp [q4]) ?_;refine zQ 10 ?_;refine EvC.ret ⟨rx,_,rfl,rl hSb hH (rfl)⟩
  rw [if_neg (by omega)];refine qE rfl (by simp [q4]) ?_;refine zQ 5 ?_;refine zI (fun q5 => ?_) fun q5 => ?_
  ·rw [if_pos q5];refine qq ?_;refine EvC.cutW [4,5] (fun ff => ff 4 = .int .i64 1 /\ ff 5 = .bool ((n.kids == 1) && decide (n.mn >= 0) && decide (n.mn <= 30) && ((n.mx == -1) || (decide (n.mx >= n.mn) && decide (n.mx <= 30))))) ?_ (fun ff tmp hff => ?_)
   ·refine zQ 4 ?_;refine EvO.two 41 rfl (fun hg3 => ?_) (fun hg3 => ?_)
    ·refine zQ 5 ?_;refine EvO.two 46 rfl (fun hg8 => ?_) (fun hg8 => ?_)
     ·refine zQ 5 ?_;refine EvO.two 51 rfl (fun hg13 => ?_) (fun hg13 => ?_)
      ·refine zQ 4 ?_;refine EvO.two 55 rfl (fun hg17 => ?_) (fun hg17 => ?_)
       ·refine zQ 10 ?_;refine EvO.pickT (wantD_is rfl rfl rfl hg13) rfl hg17 (put_T rfl _) ?_;refine zQ 3 ?_;refine EvO.nil (leafW ?_ ?_)
        ·dsimp only [setW,List.foldl,nth,u2,u1]
        ·dsimp only [nth];refine zF ?_;refine ⟨?_,?_⟩ <;> (first | rfl | (simp [hg3,hg8,hg13,hg17]; done) | (simp_all; done) | (simp [hg3,hg8,hg13,hg17]; omega) | (simp_all; omega))
       ·refine zQ 6 ?_;refine EvO.two 61 rfl (fun hg23 => ?_) (fun hg23 => ?_)
        ·refine zQ 3 ?_;refine EvO.pickT (wantD_is rfl rfl rfl hg17) rfl hg23 (put_T rfl _) ?_;refine EvO.pickF (wantD_is rfl rfl rfl hg13) rfl hg17 (put_T rfl _) ?_;refine zQ 3 ?_;refine EvO.nil (leafW ?_ ?_)
         ·dsimp only [setW,List.foldl,nth,u2,u1]
         ·dsimp only [nth];refine zF ?_;refine ⟨?_,?_⟩ <;> (first | rfl | (simp [hg3,hg8,hg13,hg17,hg23]; done) | (simp_all; done) | (simp [hg3,hg8,hg13,hg17,hg23]; omega) | (simp_all; omega))
        ·refine zQ 3 ?_;refine EvO.pickF (wantD_is rfl rfl rfl hg17) rfl hg23 (put_T rfl _) ?_;refine EvO.pickF (wantD_is rfl rfl rfl hg13) rfl hg17 (put_T rfl _) ?_;refine zQ 3 ?_;refine EvO.nil (leafW ?_ ?_)
         ·dsimp only [setW,List.foldl,nth,u2,u1]
         ·dsimp only [nth];refine zF ?_;refine ⟨?_,?_⟩ <;> (first | rfl | (simp [hg3,hg8,hg13,hg17,hg23]; done) | (simp_all; done) | (simp [hg3,hg8,hg13,hg17,hg23]; omega) | (simp_all; omega))
      ·refine zQ 18 ?_;refine EvO.nil (leafW ?_ ?_)
       ·dsimp only [setW,List.foldl,nth,u2,u1]
       ·dsimp only [nth];refine zF ?_;refine ⟨?_,?_⟩ <;> (first | rfl | (simp [hg3,hg8,hg13]; done) | (simp_all; done) | (simp [hg3,hg8,hg13]; omega) | (simp_all; omega))
     ·refine zQ 23 ?_;refine EvO.nil (leafW ?_ ?_)
      ·dsimp only [setW,List.foldl,nth,u2,u1]
      ·dsimp only [nth];refine zF ?_;refine ⟨?_,?_⟩ <;> (first | rfl | (simp [hg3,hg8]; done) | (simp_all; done) | (simp [hg3,hg8]; omega) | (simp_all; omega))
    ·refine zQ 28 ?_;refine EvO.nil (leafW ?_ ?_)
     ·dsimp only [setW,List.foldl,nth,u2,u1]
     ·dsimp only [nth];refine zF ?_;refine ⟨?_,?_⟩ <;> (first | rfl | (simp [hg3]; done) | (simp_all; done) | (simp [hg3]; omega) | (simp_all; omega))
   dsimp only [setW,List.foldl,nth,u2,u1];obtain ⟨hff4,hff5⟩ := hff;rw [hff4,hff5];refine EvC.ret ⟨rx,_,rfl,rl hSb hH (rfl)⟩
  rw [if_neg q5];refine zQ 5 ?_;refine zI (fun q6 => ?_) fun q6 => ?_
  ·rw [if_pos q6];refine qq ?_;refine EvC.cutW [4,5] (fun ff => ff 4 = .int .i64 1 /\ ff 5 = .bool ((n.kids == 1) && (n.cap == ((g + 1 : Nat) : Int)) && decide (n.cap <= 4))) ?_ (fun ff tmp hff => ?_)
   ·refine zQ 4 ?_;refine EvO.two 73 rfl (fun hg3 => ?_) (fun hg3 => ?_)
    ·refine zQ 7 ?_;refine EvO.two 80 rfl (fun hg10 => ?_) (fun hg10 => ?_)
     ·refine zQ 6 ?_;refine EvO.nil (leafW ?_ ?_)
      ·dsimp only [setW,List.foldl,nth,u2,u1]
      ·dsimp only [nth];refine zF ?_;refine ⟨?_,?_⟩ <;> (first | rfl | (simp [hg3,hg10]; done) | (simp_all; done) | (simp [hg3,hg10]; omega) | (simp_all; omega))
     ·refine zQ 6 ?_;refine EvO.nil (leafW ?_ ?_)
      ·dsimp only [setW,List.foldl,nth,u2,u1]
      ·dsimp only [nth];refine zF ?_;refine ⟨?_,?_⟩ <;> (first | rfl | (simp [hg3,hg10]; done) | (simp_all; done) | (simp [hg3,hg10]; omega) | (simp_all; omega))
    ·refine zQ 13 ?_;refine EvO.nil (leafW ?_ ?_)
     ·dsimp only [setW,List.foldl,nth,u2,u1]
     ·dsimp only [nth];refine zF ?_;refine ⟨?_,?_⟩ <;> (first | rfl | (simp [hg3]; done) | (simp_all; done) | (simp [hg3]; omega) | (simp_all; omega))
   dsimp only [setW,List.foldl,nth,u2,u1];obtain ⟨hff4,hff5⟩ := hff;rw [hff4,hff5];refine EvC.ret ⟨rx,_,rfl,rl hSb hH (rfl)⟩
  ·rw [if_neg q6];refine zQ 6 ?_;refine EvC.ret ⟨rx,_,rfl,rl hSb hH (rfl)⟩
theorem nod_refs {n : Nod} (h : n.ok) : refs (nodC n) = 0 := by
 have := h.1.ref;simp only [nodC,refs,D.ref,this,Nat.max_self]
def walkC (d : D) (at_ g : Nat) : List D := [d, .int .i64 (at_ : Nat), .int .i64 (g : Nat)]
theorem one_ev {l : List Nod} {d : D} (hl : l.length <= 1048576) (hi : ∀ n ∈ l,n.ok) (hd : SlD d 7 (l.map nodC)) : ∀ (f : Nat) {N k : Nat} {S s0 : St} {H : List Ent} {at_ g : Nat},f <= 241 -> g <= 4 -> Has N S s0 (.box k (.mem 0 false (walkC d at_ g)) :: H) ->
  ∃ r st',Ev pv 36 [.ptr k 0 0, .int .i64 ((241 - f : Nat) : Int)] s0 r st' /\ r = .bool (oneW l f at_ g).isSome /\ ∃ a' g',Has N S st' (.box k (.mem 0 false (walkC d a' g')) :: H) /\ g' <= 4 /\ ∀ q,oneW l f at_ g = some q -> a' = q.1 /\ g' = q.2 := by
 intro f
 induction f with
 | zero =>
  intro N k S s0 H at_ g hf hg hH;refine Ev.mkE rfl fi36 rfl rfl rfl ?_;refine zE ?_;have hH0 := hH;have hH := hH.enterRw;have hS2 : (enterSt .rw s0).bs = s0.bs := rfl;generalize enterSt .rw s0 = S2 at *;have hc := hd.arg N S2;refine zQ 6 ?_;refine EvC.cutT 21 (.bool (decide ((at_ : Int) >= (l.length : Nat)) || decide (((241 - 0 : Nat) : Int) > 240))) [] ?_ (fun ff tmp htmp => ?_)
  ·refine zQ 8 ?_;refine qn ?_;simp only [List.length_map];refine zQ 2 ?_;refine EvO.two 18 rfl (fun hg10 => ?_) (fun hg10 => ?_)
   ·refine zQ 3 ?_;refine EvO.nil (leafT ?_ ?_)
    ·dsimp only [setW,List.foldl,nth,u2,u1]
     all_goals (first | rfl | simp)
    ·refine zF ?_
     all_goals (simp [hg10]; done)
   ·refine zQ 3 ?_;refine EvO.nil (leafT ?_ ?_)
    ·dsimp only [setW,List.foldl,nth,u2,u1]
     all_goals (first | rfl | simp)
    ·refine zF ?_
     all_goals (simp [hg10]; done)
  dsimp only [setW,List.foldl,nth,u2,u1];have hT : (decide ((at_ : Int) >= (l.length : Nat)) || decide (((241 - 0 : Nat) : Int) > 240)) = true := by simp
  rw [hT] at htmp;refine zQ 5 ?_;refine EvC.ret ⟨rx,_,_,_,rfl,leaveD_rw (rfl),?_⟩;exact ⟨rfl,_,_,hH0.leaveRw1 hS2 hH,hg,fun q hq => by simp [oneW] at hq⟩
 | succ f ih =>
  intro N k S s0 H at_ g hf hg hH;refine Ev.mkE rfl fi36 rfl rfl rfl ?_;refine zE ?_;have hH0 := hH;have hH := hH.enterRw;have hS2 : (enterSt .rw s0).bs = s0.bs := rfl;generalize enterSt .rw s0 = S2 at *;have hc := hd.arg N S2;refine zQ 6 ?_;refine EvC.cutT 21 (.bool (decide ((at_ : Int) >= (l.length : Nat)) || decide (((241 - (f + 1) : Nat) : Int) > 240))) [] ?_ (fun ff tmp htmp => ?_)
  ·refine zQ 8 ?_;refine qn ?_;simp only [List.length_map];refine zQ 2 ?_;refine EvO.two 18 rfl (fun hg10 => ?_) (fun hg10 => ?_)
   ·refine zQ 3 ?_;refine EvO.nil (leafT ?_ ?_)
    ·dsimp only [setW,List.foldl,nth,u2,u1]
     all_goals (first | rfl | simp)
    ·refine zF ?_
     all_goals (simp_all; done)
   ·refine zQ 3 ?_;refine EvO.nil (leafT ?_ ?_)
    ·dsimp only [setW,List.foldl,nth,u2,u1]
     all_goals (first | rfl | simp)
    ·refine zF ?_
     all_goals (simp_all; omega)
  dsimp only [setW,List.foldl,nth,u2,u1]
  by_cases ha : l.length <= at_
  ·have hT : (decide ((at_ : Int) >= (l.length : Nat)) || decide (((241 - (f + 1) : Nat) : Int) > 240)) = true := by
    rw [Bool.or_eq_true]; exact .inl (by rw [decide_eq_true_eq]; omega)
   rw [hT] at htmp;have hn : oneW l (f + 1) at_ g = none := by unfold oneW; rw [List.getElem?_eq_none ha]
   rw [hn];refine zQ 5 ?_;refine EvC.ret ⟨rx,_,_,_,rfl,leaveD_rw (rfl),?_⟩;exact ⟨rfl,_,_,hH0.leaveRw1 hS2 hH,hg,fun q hq => by cases hq⟩
  ·have hT : (decide ((at_ : Int) >= (l.length : Nat)) || decide (((241 - (f + 1) : Nat) : Int) > 240)) = false := by
    rw [Bool.or_eq_false_iff]; exact ⟨by rw [decide_eq_false_iff_not]; omega,by rw [decide_eq_false_iff_not]; omega⟩
   rw [hT] at htmp
   obtain ⟨n,hn⟩ : ∃ n,l[at_]? = some n := ⟨l[at_]'(by omega),List.getElem?_eq_getElem _⟩
   have hno := hi n (List.mem_of_getElem? hn);have hr1 := nod_get hn;have hrf := nod_refs hno
   have hone : oneW l (f + 1) at_ g = if (shapeN n (g : Nat)).2 = true then kidsS (oneW l f) (shapeN n (g : Nat)).1.toNat (at_ + 1) (if n.op = 6 then g + 1 else g) else none := by
    rw [oneW,hn]
   rw [hone];clear hone;refine zQ 12 ?_;refine qr fun p30 hp30 => ?_;refine EvO.rloadS rfl (ev rfl) (by assumption) rfl (put_T rfl _) ?_;refine qa hH fun k5 st hk5 hH => ?_;dsimp only [u2,u1,u3,u4,setMany,u5,u6,D.cells,Nat.reduceAdd,walkC,nodC] at hH;refine EvO.hstoreA hH rfl (ev rfl) (ev rfl) (by rfl) (by exact rfl) (by exact at0) (by exact rfl) (by exact .inr (by assumption)) (fun st hH => ?_);dsimp only [u2,u1,u3,u4,setMany,u5,u6,D.cells,Nat.reduceAdd,walkC,nodC] at hH;refine zQ 3 ?_;refine EvO.hloadS (m := 7) hH rfl (ev rfl) (by exact at0) (by dsimp only [List.drop_succ_cons,List.drop_zero,List.take_succ_cons,List.take_zero,walkC,nodC] <;> rfl) rfl rfl (put_T rfl _) ?_;refine zQ 4 ?_;refine qv (shaped2_ev hno (by omega)) ?_;refine zQ 12 ?_
   cases hsh : (shapeN n (g : Nat)).2 with
   | false =>
    rw [if_neg (by simp)];refine zQ 5 ?_;refine EvC.ret ⟨rx,_,_,_,rfl,leaveD_rw (rfl),?_⟩;exact ⟨rfl,_,_,hH0.leaveRw1 hS2 (hH.drop 1),hg,fun q hq => by cases hq⟩
   | true =>
    rw [if_pos rfl];obtain ⟨⟨hk1,_⟩,hk2,hk3⟩ := shape_ok hsh;have hk4 := hno.2.2;obtain ⟨kd,hkd⟩ : ∃ kd : Nat,(shapeN n (g : Nat)).1 = (kd : Int) := Int.eq_ofNat_of_zero_le hk2;rw [hkd,Int.toNat_natCast];rw [hkd,Int.toNat_natCast] at hk1;refine zQ 11 ?_;refine qT hH at1 fun st hH => ?_;dsimp only [u2,u1,u3,u4,setMany,u5,u6,D.cells,Nat.reduceAdd,walkC,nodC] at hH;refine zQ 8 ?_;refine EvC.merge (fun fr st => ∃ (g2 : Nat) (tmp : List (Nat × D)),fr = ⟨8, [.ptr k 0 0, .int .i64 ((241 - (f + 1) : Nat) : Int),ixF_Qd fr 2,ixF_Qd fr 3, .bool false, .ptr k5 0 0, .int .i64 (kd : Nat), .bool true],tmp⟩ /\ Has N S2 st (.box k (.mem 0 false [d, .int .i64 ((at_ + 1 : Nat) : Int), .int .i64 (g2 : Nat)]) :: .box k5 (.mem 0 false (nodC n)) :: H) /\ (g2 = if n.op = 6 then g + 1 else g) /\ (g2 <= 4)) ?_ ?_
    ·refine zI (fun q6 => ?_) fun q6 => ?_
     ·have := hk3 q6;refine zQ 8 ?_;refine qT hH at1 fun st hH => ?_;dsimp only [u2,u1,u3,u4,setMany,u5,u6,D.cells,Nat.reduceAdd,walkC,nodC] at hH;refine zQ 1 ?_;exact ⟨g + 1,_,rfl,(by have := hH.front at1; exact this),by rw [if_pos q6],by omega⟩
     ·refine zQ 1 ?_;exact ⟨g,_,rfl,(by have := hH.front at1; exact this),by rw [if_neg q6],hg⟩
    ·rintro fr st ⟨g2,tmp,hfr,hH,hg2,hg3⟩;rw [hfr];clear hfr;generalize ixF_Qd fr = ee;clear fr;rw [<- hg2];refine zQ 2 ?_;refine EvC.loop (fun mm fr st => ∃ (kk a2 g4 : Nat),fr.clean = ⟨8, [.ptr k 0 0, .int .i64 ((241 - (f + 1) : Nat) : Int),ixF_Qd fr 2,ixF_Qd fr 3, .bool false, .ptr k5 0 0, .int .i64 (kk : Nat), .bool true], []⟩ /\ Has N S2 st (.box k (.mem 0 false [d, .int .i64 (a2 : Nat), .int .i64 (g4 : Nat)]) :: .box k5 (.mem 0 false (nodC n)) :: H) /\ (kidsS (oneW l f) kk a2 g4 = kidsS (oneW l f) kd (at_ + 1) g2) /\ (g4 <= 4) /\ (kk = mm) /\ (kk <= 9223372036854775807)) (kd) ?_ ?_
     ·exact ⟨kd,at_ + 1,g2,rfl,hH,rfl,hg3,rfl,by omega⟩
     rintro mm fr st ⟨kk,a2,g4,hfr,hH,hX,hg5,hmk,hkk⟩;rw [hfr];clear hfr;generalize ixF_Qd fr = ee;clear fr;refine zQ 6 ?_
     cases kk with
     | zero =>
      refine EvC.cond (v := false) (by dsimp only [Fr.ev,Fr.get,nth,V.look]; rfl) (fun h => by cases h) (fun _ => ?_);refine zQ 5 ?_;refine EvC.ret ⟨rx,_,_,_,rfl,leaveD_rw (rfl),?_⟩;exact ⟨by rw [<- hX]; rfl,_,_,hH0.leaveRw1 hS2 (hH.erase 1),hg5,fun q hq => by rw [<- hX] at hq; simp only [kidsS,Option.some.injEq] at hq; subst hq; exact ⟨rfl,rfl⟩⟩
     | succ kk =>
      rw [kidsS] at hX;refine qD rfl (by simp) ?_;refine zQ 7 ?_;refine EvO.addZ (z := ((241 - f : Nat) : Int)) rfl (ev rfl) (ev rfl) (by (try simp only [List.length_reverse,List.length_cons,List.length_nil,List.length_append,List.length_map,List.length_set]); rw [wrap_i64 (by omega) (by omega)] <;> omega) (put_T rfl _) ?_;obtain ⟨_,st,hev,rfl,a',g',hH,hg6,hq⟩ := ih (at_ := a2) (g := g4) (by omega) hg5 hH;refine qv hev ?_;refine zQ 2 ?_
      cases ho : oneW l f a2 g4 with
      | none =>
       rw [ho] at hX;refine zQ 5 ?_;refine EvC.ret ⟨rx,_,_,_,rfl,leaveD_rw (rfl),?_⟩;exact ⟨by rw [<- hX]; rfl,_,_,hH0.leaveRw1 hS2 (hH.erase 1),hg6,fun q hq => by rw [<- hX] at hq; cases hq⟩
      | some q =>
       rw [ho] at hX;obtain ⟨rfl,rfl⟩ := hq q ho;refine zQ 4 ?_;refine EvO.subZ (z := ((kk : Nat) : Int)) rfl (ev rfl) (ev rfl) (by (try simp only [List.length_reverse,List.length_cons,List.length_nil,List.length_append,List.length_map,List.length_set]); rw [wrap_i64 (by omega) (by omega)] <;> omega) (put_T rfl _) ?_;refine zQ 2 ?_;exact ⟨mm - 1,by omega,⟨kk,q.1,q.2,rfl,hH,hX,hg6,by omega,by omega⟩⟩
theorem rightL_ev {s0 : St} {x : Nl} (hx : x.ok) : Ev pv 18 [x.d] s0 (.bool (rightN x.l)) s0 := by
 refine Ev.mk1 rfl fi18 rfl rfl rfl ?_;refine zE ?_;obtain ⟨hSb,hF,hH⟩ := ri s0;generalize enterSt .ro s0 = S at *;have hc := hx.c.arg s0.bs.length S;have hl := hx.nl;have hcd := hx.c;refine zQ 6 ?_;refine EvC.cutT 11 (.bool (decide (((x.l.length : Nat) : Int) < 1) || decide (((x.l.length : Nat) : Int) > 480))) [] ?_ (fun ff tmp htmp => ?_)
 ·refine qm ?_;refine qn ?_;simp only [List.length_map];refine zQ 2 ?_;refine EvO.two 7 rfl (fun hg3 => ?_) (fun hg3 => ?_)
  ·refine zQ 4 ?_;refine EvO.nil (leafT ?_ ?_)
   ·dsimp only [setW,List.foldl,nth,u2,u1]
    all_goals (first | rfl | simp)
   ·refine zF ?_
    all_goals (simp [hg3]; done)
  ·refine zQ 1 ?_;refine qn ?_ (hg := wi hg3);simp only [List.length_map];refine zQ 2 ?_;refine EvO.nil (leafT ?_ ?_)
   ·dsimp only [setW,List.foldl,nth,u2,u1]
    all_goals (first | rfl | simp)
   ·refine zF ?_
    all_goals (simp [hg3]; done)
 dsimp only [setW,List.foldl,nth,u2,u1]
 by_cases hlen : 1 <= x.l.length /\ x.l.length <= 480
 ·have hT : (decide (((x.l.length : Nat) : Int) < 1) || decide (((x.l.length : Nat) : Int) > 480)) = false := by
   rw [Bool.or_eq_false_iff]; exact ⟨by rw [decide_eq_false_iff_not]; omega,by rw [decide_eq_false_iff_not]; omega⟩
  rw [hT] at htmp
  have hR : rightN x.l = (match oneW x.l 241 0 0 with | some r => decide (r.1 = x.l.length) | none => false) := by
   unfold rightN; rw [decide_eq_true hlen.1,decide_eq_true hlen.2]; rfl
  rw [hR];clear hR;refine zQ 5 ?_;refine EvO.ones (qs := [(0,_)]) rfl rfl rfl rfl ⟨rfl,(ev rfl),(by exact (SlD.cells (by assumption)).1),trivial⟩ (by intro q hq; simp only [List.mem_cons,List.not_mem_nil,or_false] at hq; rcases hq with rfl <;> exact ⟨rfl,by exact Nat.le_of_ble_eq_true rfl⟩) (by show List.foldl _ [_,_,_] _ = _; dsimp only [List.foldl_cons,List.foldl_nil,u2,u1] <;> rfl) (put_T rfl _) ?_;refine qb hH fun k14 st hk14 hH => ?_;refine zQ 2 ?_;have hH : Has s0.bs.length S st (.box k14 (.mem 0 false (walkC x.d 0 0)) :: []) := hH
  cases hg2 : (oneW x.l 241 0 0).isSome with
  | true =>
   obtain ⟨q,hq⟩ := Option.isSome_iff_exists.1 hg2;refine zQ 3 ?_;obtain ⟨_,st,hev,rfl,a',g',hH,hg6,hqq⟩ := one_ev hl hx.i hx.c 241 (by omega) (by omega) hH;refine qv hev ?_;refine zQ 6 ?_;refine qn ?_ (hg := wi hg2);simp only [List.length_map];refine zQ 4 ?_;obtain ⟨rfl,rfl⟩ := hqq q hq;rw [hq]
   have he : decide (q.1 = x.l.length) = (((q.1 : Nat) : Int) == ((x.l.length : Nat) : Int)) := by
    rw [Bool.eq_iff_iff]; simp only [decide_eq_true_eq,beq_iff_eq]; omega
   simp only [he];refine EvC.ret ⟨rx,_,rfl,rl hSb hH (rfl)⟩
  | false =>
   have hq : oneW x.l 241 0 0 = none := by
    cases hq : oneW x.l 241 0 0 with
    | none => rfl
    | some q => rw [hq] at hg2; cases hg2
   refine zQ 3 ?_;obtain ⟨_,st,hev,rfl,a',g',hH,hg6,hqq⟩ := one_ev hl hx.i hx.c 241 (by omega) (by omega) hH;refine qv hev ?_;refine zQ 11 ?_;rw [hq];refine EvC.ret ⟨rx,_,rfl,rl hSb hH (rfl)⟩
 ·have hT : (decide (((x.l.length : Nat) : Int) < 1) || decide (((x.l.length : Nat) : Int) > 480)) = true := by
   rw [Bool.or_eq_true,decide_eq_true_eq,decide_eq_true_eq]; omega
  rw [hT] at htmp
  have hR : rightN x.l = false := by
   unfold rightN
   by_cases h1 : 1 <= x.l.length
   ·rw [decide_eq_true h1,decide_eq_false (fun h2 => hlen ⟨h1,h2⟩)]; rfl
   ·rw [decide_eq_false h1]; rfl
  rw [hR];refine zQ 5 ?_;refine EvC.ret ⟨rx,_,rfl,rl hSb hH (rfl)⟩
end Go.Proofs.Ytapfahlbkhgdpaa
namespace Go.Proofs.Ytapfahlbkhgdpaa
open Go.V Go
def ixF_Qe (fr : Go.V.Fr) (k : Nat) : Go.V.D := Go.V.nth .junk fr.loc k
def spl (es : List Int) (a : Nat) (M : List Int) : List Int := es.take a ++ M ++ es.drop (a + M.length)
theorem spl_len {es M : List Int} {a : Nat} (h : a + M.length <= es.length) : (spl es a M).length = es.length := by
 unfold spl; simp only [List.length_append,List.length_take,List.length_drop]; omega
theorem spl_nil {es : List Int} {a : Nat} : spl es a [] = es := by
 unfold spl; simp
theorem spl_get {es M : List Int} {a : Nat} {x : Int} (h : a <= es.length) : (spl es a (x :: M))[a]? = some x := by
 unfold spl;rw [List.append_assoc,List.getElem?_append_right (by simp only [List.length_take]; omega)];simp [Nat.min_eq_left h]
theorem spl_spl {es M M' : List Int} {a : Nat} (h : a + M.length + M'.length <= es.length) : spl (spl es a M) (a + M.length) M' = spl es a (M ++ M') := by
 unfold spl;have h1 : (es.take a ++ M).length = a + M.length := by simp only [List.length_append,List.length_take]; omega
 rw [List.take_append_of_le_length (by omega),List.take_of_length_le (by omega)];rw [<- h1,List.drop_append,List.drop_eq_nil_of_le (by omega),List.nil_append,h1,List.drop_drop];simp only [List.append_assoc,List.length_append]
 congr 4
 omega
theorem spl_set {es M : List Int} {a : Nat} {v : Int} (h : a + 1 + M.length <= es.length) : (spl es (a + 1) M).set a v = spl es a (v :: M) := by
 unfold spl;have h1 : (es.take a).length = a := by simp only [List.length_take]; omega
 rw [List.append_assoc,List.take_add_one,List.getElem?_eq_getElem (by omega)];simp only [Option.toList_some,List.append_assoc,List.cons_append,List.nil_append,List.length_cons];rw [List.set_append_right _ _ (by omega),h1,Nat.sub_self,List.set_cons_zero]
 congr 4
 omega
theorem sizes_ev {l : List Nod} {d : D} (hl : l.length <= 1048576) (hi : ∀ n ∈ l,n.ok) (hd : SlD d 7 (l.map nodC)) : ∀ (m : Nat) (t : Tr),t.flat.length <= m -> t.ok -> ∀ {N : Nat} {S s0 : St} {H : List Ent} {out : D} {es : List Int} {at_ : Nat},Seg l at_ t.flat -> es.length = l.length -> Has N S s0 (.lst out 1 (es.map intC) :: H) ->
  ∃ r st',Ev pv 19 [d,out, .int .i64 (at_ : Nat)] s0 r st' /\ r = .int .i64 ((at_ + t.flat.length : Nat) : Int) /\ Has N S st' (.lst out 1 ((spl es at_ t.zs).map intC) :: H) := by
 intro m
 induction m with
 | zero => intro t h; have := t.flat_pos; omega
 | succ m ih =>
  rintro ⟨n,ks⟩ hm hok N S s0 H out es at_ hseg hel hH;simp only [Tr.ok] at hok;obtain ⟨hno,hks⟩ := hok;simp only [Tr.flat,List.length_cons] at hm;have hle := hseg.le (by simp [Tr.flat]);simp only [Tr.flat] at hseg hle;simp only [List.length_cons] at hle;have hn := hseg.head;have hseg := hseg.tail;have hnn := hi n (List.mem_of_getElem? hn);have hr1 := nod_get hn;have hrf := nod_refs hnn;have hkd := hno.1;have hfl := Trs.len_le ks;refine Ev.mkE rfl fi19 rfl rfl rfl ?_;refine zE ?_;have hH0 := hH;have hH := hH.enterRw;have hS2 : (enterSt .rw s0).bs = s0.bs := rfl;generalize enterSt .rw s0 = S2 at *;have hc := hd.arg N S2;refine zQ 8 ?_;refine qr fun p13 hp13 => ?_;refine EvO.rloadS rfl (ev rfl) (by assumption) rfl (by dsimp only [Fr.put,u1,u2] <;> rfl) ?_;refine qa hH fun k7 st hk7 hH => ?_;refine EvO.hstoreA hH rfl (ev rfl) (ev rfl) (by rfl) (by exact rfl) (by exact at0) (by exact rfl) (by exact .inr (by assumption)) (fun st hH => ?_);dsimp only [u2,u1,u3,u4,setMany,u5,u6,D.cells,Nat.reduceAdd,nodC,intC] at hH;refine zQ 19 ?_;refine EvC.loop (fun mm fr st => ∃ (i j ss : Nat) (rest : Trs) (es2 : List Int),fr.clean = ⟨36, [d,out, .int .i64 (at_ : Nat),ixF_Qe fr 3,ixF_Qe fr 4,ixF_Qe fr 5, .int .i64 0, .ptr k7 0 0, .int .i64 (j : Nat), .int .i64 ((min ss 401 : Nat) : Int),ixF_Qe fr 10,ixF_Qe fr 11,ixF_Qe fr 12,ixF_Qe fr 13,ixF_Qe fr 14,ixF_Qe fr 15,ixF_Qe fr 16,ixF_Qe fr 17, .int .i64 n.kids, .int .i64 (i : Nat),ixF_Qe fr 20,ixF_Qe fr 21,ixF_Qe fr 22,ixF_Qe fr 23,ixF_Qe fr 24,ixF_Qe fr 25,ixF_Qe fr 26,ixF_Qe fr 27,ixF_Qe fr 28,ixF_Qe fr 29,ixF_Qe fr 30,ixF_Qe fr 31,ixF_Qe fr 32,ixF_Qe fr 33,ixF_Qe fr 34,ixF_Qe fr 35], []⟩ /\ Has N S2 st (.lst out 1 (es2.map intC) :: .box k7 (.mem 0 false (nodC n)) :: H) /\ (mm = rest.len) /\ (i + rest.len = ks.len) /\ (Seg l j rest.flat) /\ (rest.ok) /\ (ss + rest.sz = ks.sz) /\ (es2.length = l.length) /\ (spl es2 j rest.zs = spl es (at_ + 1) ks.zs) /\ (j + rest.flat.length = at_ + 1 + ks.flat.length) /\ (rest.flat.length <= m)) (ks.len) ?_ ?_
  ·exact ⟨0,at_ + 1,0,ks,es,rfl,(by have := hH.front at1; exact this),rfl,by omega,hseg,hks,by omega,hel,rfl,rfl,by omega⟩
  rintro mm fr st ⟨i,j,ss,rest,es2,hfr,hH,hmm,hi2,hsg,hrok,hss,hel2,hspl,hj,hrm⟩;rw [hfr];clear hfr;generalize ixF_Qe fr = ee;clear fr;refine zQ 4 ?_
  cases rest with
  | nil =>
   simp only [Trs.len] at hi2;simp only [Trs.sz] at hss;simp only [Trs.flat,List.length_nil] at hj;simp only [Trs.zs,spl_nil] at hspl;have hcc : decide ((i : Int) < n.kids) = false := by rw [decide_eq_false_iff_not]; omega
   refine qq ?_;refine qE rfl (by rw [hcc]) ?_;refine zQ 1 ?_;obtain rfl : ss = ks.sz := by omega
   have hseg := hsg;refine zQ 6 ?_;refine EvC.merge (fun fr st => ∃  (tmp : List (Nat × D)),fr = ⟨36, [d,out, .int .i64 (at_ : Nat),ixF_Qe fr 3,ixF_Qe fr 4,ixF_Qe fr 5, .int .i64 0, .ptr k7 0 0, .int .i64 (j : Nat), .int .i64 ((nodSz n (min ks.sz 401) ks.len : Nat) : Int),ixF_Qe fr 10,ixF_Qe fr 11,ixF_Qe fr 12,ixF_Qe fr 13,ixF_Qe fr 14,ixF_Qe fr 15,ixF_Qe fr 16,ixF_Qe fr 17,ixF_Qe fr 18,ixF_Qe fr 19,ixF_Qe fr 20,ixF_Qe fr 21,ixF_Qe fr 22,ixF_Qe fr 23,ixF_Qe fr 24,ixF_Qe fr 25,ixF_Qe fr 26,ixF_Qe fr 27,ixF_Qe fr 28,ixF_Qe fr 29,ixF_Qe fr 30,ixF_Qe fr 31,ixF_Qe fr 32,ixF_Qe fr 33,ixF_Qe fr 34,ixF_Qe fr 35],tmp⟩ /\ Has N S2 st (.lst out 1 (es2.map intC) :: .box k7 (.mem 0 false (nodC n)) :: H)) ?_ ?_
   ·refine zQ 7 ?_;generalize hw : min ks.sz 401 = w;have hwl : w <= 401 := by omega
    have hkl : ks.len <= 9223372036854775 -> True := fun _ => trivial
    by_cases q2 : n.op = 2
    ·have hz : nodSz n w ks.len = 1 := by unfold nodSz; rw [if_pos (.inl q2)]
     rw [hz];refine qD rfl (by simp [q2]) ?_;refine zQ 1 ?_;refine qD rfl (by simp [q2]) ?_;refine zQ 3 ?_;exact ⟨_,rfl,hH⟩
    refine qE rfl (by simp [q2]) ?_;refine zQ 5 ?_
    by_cases q7 : n.op = 7
    ·have hz : nodSz n w ks.len = 1 := by unfold nodSz; rw [if_pos (.inr (.inl q7))]
     rw [hz];refine qD rfl (by simp [q7]) ?_;refine zQ 1 ?_;refine qD rfl (by simp [q7]) ?_;refine zQ 3 ?_;exact ⟨_,rfl,hH⟩
    refine qE rfl (by simp [q7]) ?_;refine zQ 4 ?_
    by_cases q8 : n.op = 8
    ·have hz : nodSz n w ks.len = 1 := by unfold nodSz; rw [if_pos (.inr (.inr q8))]
     rw [hz];refine qD rfl (by simp [q8]) ?_;refine zQ 3 ?_;exact ⟨_,rfl,hH⟩
    refine qE rfl (by simp [q8]) ?_
    have hz0 : nodSz n w ks.len = if n.op = 4 then w + 2 * (ks.len - 1) else if n.op = 6 then w + 2 else if n.op = 5 then (if n.mx = -1 then n.mn.toNat * w + w + 2 else n.mn.toNat * w + (n.mx.toNat - n.mn.toNat) * (w + 1)) else w := by
     unfold nodSz; rw [if_neg (by omega)]
    rw [hz0];clear hz0;obtain ⟨_,hcs⟩ := hno;have hq : (n.op = 1 /\ ks.len = 0) \/ ((n.op = 3 \/ n.op = 4) /\ 2 <= ks.len) \/ (n.op = 5 /\ ks.len = 1 /\ 0 <= n.mn /\ n.mn <= 30 /\ (n.mx = -1 \/ (n.mn <= n.mx /\ n.mx <= 30))) \/ (n.op = 6 /\ ks.len = 1 /\ 1 <= n.cap /\ n.cap <= 4) := by omega
    refine zQ 5 ?_
    by_cases q4 : n.op = 4
    ·rw [if_pos q4];have hk2 : 2 <= ks.len := by omega
     refine qD rfl (by simp [q4]) ?_;refine zQ 4 ?_;refine EvO.subZ (z := ((ks.len - 1 : Nat) : Int)) rfl (ev rfl) (ev rfl) (by (try simp only [List.length_reverse,List.length_cons,List.length_nil,List.length_append,List.length_map,List.length_set]); rw [wrap_i64 (by omega) (by omega)] <;> omega) (put_T rfl _) ?_;refine EvO.mulZ (z := ((2 * (ks.len - 1) : Nat) : Int)) rfl (ev rfl) (ev rfl) (by (try simp only [List.length_reverse,List.length_cons,List.length_nil,List.length_append,List.length_map,List.length_set]); rw [wrap_i64 (by omega) (by omega)] <;> omega) (put_T rfl _) ?_;refine EvO.addZ (z := ((w + 2 * (ks.len - 1) : Nat) : Int)) rfl (ev rfl) (ev rfl) (by (try simp only [List.length_reverse,List.length_cons,List.length_nil,List.length_append,List.length_map,List.length_set]); rw [wrap_i64 (by omega) (by omega)] <;> omega) (put_T rfl _) ?_;refine zQ 2 ?_;exact ⟨_,rfl,hH⟩
    rw [if_neg q4];refine qE rfl (by simp [q4]) ?_;refine zQ 5 ?_
    by_cases q6 : n.op = 6
    ·rw [if_pos q6];refine qD rfl (by simp [q6]) ?_;refine zQ 5 ?_;exact ⟨_,rfl,hH⟩
    rw [if_neg q6];refine qE rfl (by simp [q6]) ?_;refine zQ 5 ?_
    by_cases q5 : n.op = 5
    ·rw [if_pos q5];refine qD rfl (by simp [q5]) ?_;refine zQ 6 ?_;have hmn : 0 <= n.mn /\ n.mn <= 30 /\ (n.mx = -1 \/ (n.mn <= n.mx /\ n.mx <= 30)) := by omega
     obtain ⟨a,ha⟩ : ∃ a : Nat,n.mn = (a : Int) := Int.eq_ofNat_of_zero_le hmn.1;have hta : n.mn.toNat = a := by omega
     have h1 : a * w <= 30 * 401 := Nat.mul_le_mul (by omega) hwl;have hmul : n.mn * (w : Int) = ((a * w : Nat) : Int) := by rw [ha]; push_cast; rfl
     rw [hta]
     by_cases qmx : n.mx = -1
     ·rw [if_pos qmx];refine qD rfl (by simp [qmx]) ?_;refine zQ 4 ?_;refine EvO.mulZ (z := ((a * w : Nat) : Int)) rfl (ev rfl) (ev rfl) (by (try simp only [List.length_reverse,List.length_cons,List.length_nil,List.length_append,List.length_map,List.length_set]); rw [wrap_i64 (by omega) (by omega)] <;> omega) (put_T rfl _) ?_;refine qm ?_;refine EvO.addZ (z := ((a * w + w : Nat) : Int)) rfl (ev rfl) (ev rfl) (by (try simp only [List.length_reverse,List.length_cons,List.length_nil,List.length_append,List.length_map,List.length_set]); rw [wrap_i64 (by omega) (by omega)] <;> omega) (put_T rfl _) ?_;refine EvO.addZ (z := ((a * w + w + 2 : Nat) : Int)) rfl (ev rfl) (ev rfl) (by (try simp only [List.length_reverse,List.length_cons,List.length_nil,List.length_append,List.length_map,List.length_set]); rw [wrap_i64 (by omega) (by omega)] <;> omega) (put_T rfl _) ?_;refine zQ 2 ?_;exact ⟨_,rfl,hH⟩
     ·rw [if_neg qmx];obtain ⟨b,hb⟩ : ∃ b : Nat,n.mx = (b : Int) := Int.eq_ofNat_of_zero_le (by omega);have htb : n.mx.toNat = b := by omega
      have h2 : (b - a) * (w + 1) <= 30 * 402 := Nat.mul_le_mul (by omega) (by omega);rw [htb];refine qE rfl (by simp [qmx]) ?_;refine zQ 4 ?_;refine EvO.mulZ (z := ((a * w : Nat) : Int)) rfl (ev rfl) (ev rfl) (by (try simp only [List.length_reverse,List.length_cons,List.length_nil,List.length_append,List.length_map,List.length_set]); rw [wrap_i64 (by omega) (by omega)] <;> omega) (put_T rfl _) ?_;refine zQ 4 ?_;refine EvO.subZ (z := ((b - a : Nat) : Int)) rfl (ev rfl) (ev rfl) (by (try simp only [List.length_reverse,List.length_cons,List.length_nil,List.length_append,List.length_map,List.length_set]); rw [wrap_i64 (by omega) (by omega)] <;> omega) (put_T rfl _) ?_;refine qm ?_;refine EvO.addZ (z := ((w + 1 : Nat) : Int)) rfl (ev rfl) (ev rfl) (by (try simp only [List.length_reverse,List.length_cons,List.length_nil,List.length_append,List.length_map,List.length_set]); rw [wrap_i64 (by omega) (by omega)] <;> omega) (put_T rfl _) ?_;refine EvO.mulZ (z := (((b - a) * (w + 1) : Nat) : Int)) rfl (ev rfl) (ev rfl) (by (try simp only [List.length_reverse,List.length_cons,List.length_nil,List.length_append,List.length_map,List.length_set]); rw [wrap_i64 (by omega) (by omega)] <;> omega) (put_T rfl _) ?_;refine EvO.addZ (z := ((a * w + (b - a) * (w + 1) : Nat) : Int)) rfl (ev rfl) (ev rfl) (by (try simp only [List.length_reverse,List.length_cons,List.length_nil,List.length_append,List.length_map,List.length_set]); rw [wrap_i64 (by omega) (by omega)] <;> omega) (put_T rfl _) ?_;refine zQ 2 ?_;exact ⟨_,rfl,hH⟩
    ·rw [if_neg q5];refine qE rfl (by simp [q5]) ?_;refine zQ 1 ?_;exact ⟨_,rfl,hH⟩
   ·rintro fr st ⟨tmp,hfr,hH⟩;rw [hfr];clear hfr;generalize ixF_Qe fr = ee;clear fr;have hcap := cap_nod (n := n) (k := ks.len) (s := ks.sz);have hat : at_ < es2.length := by omega
    obtain ⟨w,hw⟩ : ∃ w,es2[at_]? = some w := ⟨es2[at_]'hat,List.getElem?_eq_getElem _⟩
    have hr9 := int_get hw;refine zQ 5 ?_;refine EvO.minZ (z := ((min (nodSz n ks.sz ks.len) 401 : Nat) : Int)) (t1 := _) (t2 := _) rfl (ev rfl) (ev rfl) (by omega) (put_T rfl _) ?_;refine qi hH at0 fun p81 hp81 => ?_;refine EvO.ostore hH rfl (ev rfl) (ev rfl) (by assumption) rfl rfl (by exact at0) (by assumption) (Nat.le_of_ble_eq_true rfl) (by exact .inr rfl) (fun st hH => ?_);dsimp only [u2,u1,u3,u4,setMany,u5,u6,D.cells,Nat.reduceAdd,nodC,intC] at hH;refine zQ 6 ?_;refine EvC.ret ⟨rx,_,_,_,rfl,leaveD_rw (rfl),?_⟩;have hje : j = at_ + (Tr.mk n ks).flat.length := by simp only [Tr.flat,List.length_cons]; omega
    refine ⟨by rw [hje]; rfl,?_⟩
    have hfin : spl es at_ (Tr.zs (.mk n ks)) = es2.set at_ ((min (nodSz n ks.sz ks.len) 401 : Nat) : Int) := by
     rw [hspl,spl_set (by rw [Trs.zs_len]; omega)]; rfl
    rw [hfin,List.map_set];exact hH0.leaveRwL hS2 (hH.erase 1)
  | cons t ts =>
   simp only [Trs.len] at hi2 hmm;simp only [Trs.sz] at hss;simp only [Trs.flat,List.length_append] at hj hsg hrm;simp only [Trs.zs] at hspl;simp only [Trs.ok] at hrok;have hcc : decide ((i : Int) < n.kids) = true := by rw [decide_eq_true_eq]; omega
   have htp := t.flat_pos;have htz := t.zs_len;have hzz := ts.zs_len;have hel3 : (spl es2 j t.zs).length = l.length := by rw [spl_len (by omega)]; exact hel2
   have hz8 : (spl es2 j t.zs)[j]? = some ((min t.sz 401 : Nat) : Int) := by
    obtain ⟨n',ks'⟩ := t;simp only [Tr.zs,Tr.sz];exact spl_get (by omega)
   have hr8 := int_get hz8;refine qq ?_;refine qD rfl (by rw [hcc]) ?_;refine zQ 13 ?_;obtain ⟨_,st,hev,rfl,hH⟩ := ih t (by omega) hrok.1 hsg.left hel2 hH;refine qv hev ?_;refine zQ 6 ?_;refine qi hH at0 fun p29 hp29 => ?_;refine zQ 1 ?_;refine EvO.addZ (z := ((min ss 401 + min t.sz 401 : Nat) : Int)) rfl (ev rfl) (ev rfl) (by (try simp only [List.length_reverse,List.length_cons,List.length_nil,List.length_append,List.length_map,List.length_set]); rw [wrap_i64 (by omega) (by omega)] <;> omega) (by dsimp only [Fr.put,u1,u2] <;> rfl) ?_;refine EvO.minZ (z := ((min (ss + t.sz) 401 : Nat) : Int)) (t1 := _) (t2 := _) rfl (ev rfl) (ev rfl) (by omega) (by dsimp only [Fr.put,u1,u2] <;> rfl) ?_;refine zQ 6 ?_;exact ⟨mm - 1,by omega,⟨i + 1,j + t.flat.length,ss + t.sz,ts,spl es2 j t.zs,rfl,hH,by omega,by omega,hsg.right,hrok.2,by omega,hel3,by rw [<- hspl]; have := spl_spl (es := es2) (a := j) (M := t.zs) (M' := ts.zs) (by omega); rw [htz] at this; exact this,by omega,by omega⟩⟩
theorem ends_ev {l : List Nod} {d : D} (hl : l.length <= 1048576) (hi : ∀ n ∈ l,n.ok) (hd : SlD d 7 (l.map nodC)) : ∀ (m : Nat) (t : Tr),t.flat.length <= m -> t.ok -> ∀ {N : Nat} {S s0 : St} {H : List Ent} {out : D} {es : List Int} {at_ : Nat},Seg l at_ t.flat -> es.length = l.length -> Has N S s0 (.lst out 1 (es.map intC) :: H) ->
  ∃ r st',Ev pv 20 [d,out, .int .i64 (at_ : Nat)] s0 r st' /\ r = .int .i64 ((at_ + t.flat.length : Nat) : Int) /\ Has N S st' (.lst out 1 ((spl es at_ (t.es at_)).map intC) :: H) := by
 intro m
 induction m with
 | zero => intro t h; have := t.flat_pos; omega
 | succ m ih =>
  rintro ⟨n,ks⟩ hm hok N S s0 H out es at_ hseg hel hH;simp only [Tr.ok] at hok;obtain ⟨hno,hks⟩ := hok;simp only [Tr.flat,List.length_cons] at hm;have hle := hseg.le (by simp [Tr.flat]);simp only [Tr.flat] at hseg hle;simp only [List.length_cons] at hle;have hn := hseg.head;have hseg := hseg.tail;have hnn := hi n (List.mem_of_getElem? hn);have hr1 := nod_get hn;have hkd := hno.1;have hfl := Trs.len_le ks;refine Ev.mkE rfl fi20 rfl rfl rfl ?_;refine zE ?_;have hH0 := hH;have hH := hH.enterRw;have hS2 : (enterSt .rw s0).bs = s0.bs := rfl;generalize enterSt .rw s0 = S2 at *;have hc := hd.arg N S2;refine zQ 15 ?_;refine qr fun p12 hp12 => ?_;refine qf (fo := 6) fun p13 hp13 => ?_;refine zQ 4 ?_;refine EvC.loop (fun mm fr st => ∃ (i j : Nat) (rest : Trs) (es2 : List Int),fr.clean = ⟨16, [d,out, .int .i64 (at_ : Nat),ixF_Qe fr 3,ixF_Qe fr 4,ixF_Qe fr 5, .int .i64 0, .int .i64 (j : Nat),ixF_Qe fr 8,ixF_Qe fr 9,ixF_Qe fr 10,ixF_Qe fr 11,ixF_Qe fr 12,ixF_Qe fr 13, .int .i64 n.kids, .int .i64 (i : Nat)], []⟩ /\ Has N S2 st (.lst out 1 (es2.map intC) :: H) /\ (mm = rest.len) /\ (i + rest.len = ks.len) /\ (Seg l j rest.flat) /\ (rest.ok) /\ (es2.length = l.length) /\ (spl es2 j (rest.es j) = spl es (at_ + 1) (ks.es (at_ + 1))) /\ (j + rest.flat.length = at_ + 1 + ks.flat.length) /\ (rest.flat.length <= m)) (ks.len) ?_ ?_
  ·exact ⟨0,at_ + 1,ks,es,rfl,hH,rfl,by omega,hseg,hks,hel,rfl,rfl,by omega⟩
  rintro mm fr st ⟨i,j,rest,es2,hfr,hH,hmm,hi2,hsg,hrok,hel2,hspl,hj,hrm⟩;rw [hfr];clear hfr;generalize ixF_Qe fr = ee;clear fr;refine zQ 4 ?_
  cases rest with
  | nil =>
   simp only [Trs.len] at hi2;simp only [Trs.flat,List.length_nil] at hj;simp only [Trs.es,spl_nil] at hspl;have hcc : decide ((i : Int) < n.kids) = false := by rw [decide_eq_false_iff_not]; omega
   have hat : at_ < es2.length := by omega
   obtain ⟨w,hw⟩ : ∃ w,es2[at_]? = some w := ⟨es2[at_]'hat,List.getElem?_eq_getElem _⟩
   have hr9 := int_get hw;refine qq ?_;refine qE rfl (by rw [hcc]) ?_;refine zQ 6 ?_;refine qi hH at0 fun p25 hp25 => ?_;refine EvO.ostore hH rfl (ev rfl) (ev rfl) (by assumption) rfl rfl (by exact at0) (by assumption) (Nat.le_of_ble_eq_true rfl) (by exact .inr rfl) (fun st hH => ?_);dsimp only [u2,u1,u3,u4,setMany,u5,u6,D.cells,Nat.reduceAdd,nodC,intC] at hH;refine zQ 6 ?_;refine EvC.ret ⟨rx,_,_,_,rfl,leaveD_rw (rfl),?_⟩;have hje : j = at_ + (Tr.mk n ks).flat.length := by simp only [Tr.flat,List.length_cons]; omega
   refine ⟨by rw [hje]; rfl,?_⟩
   have hfin : spl es at_ (Tr.es (.mk n ks) at_) = es2.set at_ ((j : Nat) : Int) := by
    rw [hspl,spl_set (by rw [Trs.es_len]; omega)];have : j = at_ + 1 + ks.flat.length := by omega
    rw [this]; rfl
   rw [hfin,List.map_set];exact hH0.leaveRwL hS2 hH
  | cons t ts =>
   simp only [Trs.len] at hi2 hmm;simp only [Trs.flat,List.length_append] at hj hsg hrm;simp only [Trs.es] at hspl;simp only [Trs.ok] at hrok;have hcc : decide ((i : Int) < n.kids) = true := by rw [decide_eq_true_eq]; omega
   have htp := t.flat_pos;have htz := t.es_len j;have hzz := ts.es_len (j + t.flat.length);have hel3 : (spl es2 j (t.es j)).length = l.length := by rw [spl_len (by omega)]; exact hel2
   refine qq ?_;refine qD rfl (by rw [hcc]) ?_;refine zQ 7 ?_;obtain ⟨_,st,hev,rfl,hH⟩ := ih t (by omega) hrok.1 hsg.left hel2 hH;refine qv hev ?_;refine zQ 6 ?_;exact ⟨mm - 1,by omega,⟨i + 1,j + t.flat.length,ts,spl es2 j (t.es j),rfl,hH,by omega,by omega,hsg.right,hrok.2,hel3,by rw [<- hspl]; have := spl_spl (es := es2) (a := j) (M := t.es j) (M' := ts.es (j + t.flat.length)) (by omega); rw [htz] at this; exact this,by omega,by omega⟩⟩
end Go.Proofs.Ytapfahlbkhgdpaa
namespace Go.Proofs.Ytapfahlbkhgdpaa
open Go.V Go
variable {bb : Bool}
theorem add_ev {N k : Nat} {S s0 : St} {H : List Ent} {ks : Nat -> Prop} {cd nd zd ed w : D} {code : List PIns} {op x y : Int} {rs : List Rg} (hF : S.flr <= N) (hl : code.length <= 1048576) (hH : Has N S s0 (.lst w 2 (rs.map rangeC) :: .box k (.mem 0 false [cd,nd,zd,ed]) :: .deepG bb ks cd 4 (code.map insC) :: H)) :
  ∃ r st',Ev pv 21 [.ptr k 0 0, .agg [.int .i64 op, .int .i64 x, .int .i64 y,w]] s0 r st' /\ r = .int .i64 (code.length : Nat) /\ ∃ cd' ks',Has N S st' (.box k (.mem 0 false [cd',nd,zd,ed]) :: .deepG bb ks' cd' 4 ((code ++ [mkI op x y rs]).map insC) :: H) := by
 refine Ev.mkE rfl fi21 rfl rfl rfl ?_;refine zE ?_;change EvC _ _ _ _ s0 _;refine zQ 2 ?_;refine qb hH fun k3 st hk3 hH => ?_;refine zQ 9 ?_;refine EvO.hloadS (m := 4) hH rfl (ev rfl) (by exact at0) (by dsimp only [List.drop_succ_cons,List.drop_zero,List.take_succ_cons,List.take_zero,insC] <;> rfl) rfl rfl (put_T rfl _) ?_;refine qh (s := 4) (vs := [_]) hH fun k11 st hk11 hH => ?_;obtain ⟨hH,hdc⟩ := hH.absorb (i := 2) (j := 4) (by decide) at2 at4 (range_plain _);dsimp only [u1,u2] at hH;refine EvO.dappend hH rfl (ev rfl) (ev rfl) at4 (hH.rows at0) (.cons (.cons (.plain _ rfl) (.cons (.plain _ rfl) (.cons (.plain _ rfl) (.cons hdc .nil)))) .nil) rfl rfl rfl rfl rfl rfl rfl ⟨(Nat.le_of_ble_eq_true rfl),(Nat.le_of_ble_eq_true rfl)⟩ (fun _ => (put_T rfl _)) (by simp only [List.length_map,List.length_cons,List.length_nil]; omega) (.inl hF) (fun x12 st hH => ?_);dsimp only [u1,u2] at hH;refine zQ 2 ?_;refine EvO.hstore hH rfl (ev rfl) (ev rfl) (by exact hH.dcells (by exact at4)) (by exact rfl) (by exact at3) (by exact Nat.le_of_ble_eq_true rfl) (by exact .inl hF) (fun st hH => ?_);dsimp only [u2,u1,u3,u4,setMany,u5,u6,D.cells,Nat.reduceAdd,insC] at hH;refine zQ 7 ?_;refine EvO.dlen hH rfl (ev rfl) (by exact at4) rfl (put_T rfl _) ?_;simp only [List.length_map,List.length_append,List.length_cons,List.length_nil];refine EvO.subZ (z := ((code.length : Nat) : Int)) rfl (ev rfl) (ev rfl) (by (try simp only [List.length_reverse,List.length_cons,List.length_nil,List.length_append,List.length_map,List.length_set]); rw [wrap_i64 (by omega) (by omega)] <;> omega) (put_T rfl _) ?_;refine zQ 2 ?_;refine EvC.ret ⟨rx,_,_,_,rfl,rfl,?_⟩;exact ⟨rfl,_,_,by rw [List.map_append]; exact hH.drop 3⟩
theorem split_ev {N k : Nat} {S s0 : St} {H : List Ent} {ks : Nat -> Prop} {cd nd zd ed : D} {code : List PIns} {at_ over : Nat} {lz : Bool} {x y : Int} (hat : code[at_]? = some (mkI 2 x y [])) (hl : code.length <= 1048576) (hH : Has N S s0 (.box k (.mem 0 false [cd,nd,zd,ed]) :: .deepG bb ks cd 4 (code.map insC) :: H)) :
  ∃ r st',Ev pv 47 [.ptr k 0 0, .int .i64 (at_ : Nat), .int .i64 (over : Nat), .bool lz] s0 r st' /\ r = .tup [] /\ Has N S st' (.box k (.mem 0 false [cd,nd,zd,ed]) :: .deepG bb ks cd 4 ((code.set at_ (spI at_ over lz)).map insC) :: H) := by
 have hlt := lt_get hat;have hr1 : (code.map insC)[at_]? = some [.int .i64 2, .int .i64 x, .int .i64 y, .sl []] := ins_get hat;have hfin : ∀ a b : List D,(code.map insC).set at_ a = (code.map insC).set at_ a := fun _ _ => rfl;refine Ev.mkE rfl fi47 rfl rfl rfl ?_;refine zE ?_;have hH0 := hH;have hH := hH.enterRw;have hS2 : (enterSt .rw s0).bs = s0.bs := rfl;generalize enterSt .rw s0 = S2 at *;refine zQ 13 ?_;refine EvO.addZ (z := ((at_ + 1 : Nat) : Int)) rfl (ev rfl) (ev rfl) (by (try simp only [List.length_reverse,List.length_cons,List.length_nil,List.length_append,List.length_map,List.length_set]); rw [wrap_i64 (by omega) (by omega)] <;> omega) (put_T rfl _) ?_;refine qm ?_;refine EvO.didx (s := 4) hH rfl (ev rfl) (ev rfl) (by exact at1) rfl rfl (by exact lt_get (by assumption)) (fun _ => (put_T rfl _)) (fun p21 hp21 => ?_);refine EvO.ofieldN (fo := 1) (m := 0) (o2 := 1) rfl (ev rfl) (by assumption) rfl rfl rfl (fun _ => (put_T rfl _)) (fun p22 hp22 => ?_);refine EvO.dstore hH rfl (ev rfl) (ev rfl) (by assumption) rfl rfl (by exact at1) (by assumption) (Nat.le_of_ble_eq_true rfl) (by intro d hd; simp only [List.mem_cons,List.not_mem_nil,or_false] at hd; subst hd; rfl) (by exact .inr rfl) (fun st hH => ?_);dsimp only [u2,u1,u3,u4,setMany,u5,u6,D.cells,Nat.reduceAdd,insC] at hH;refine EvO.didx (s := 4) hH rfl (ev rfl) (ev rfl) (by exact at1) rfl rfl (by simp only [List.length_map,List.length_set] <;> omega) (fun _ => (put_T rfl _)) (fun p23 hp23 => ?_);refine EvO.ofieldN (fo := 2) (m := 0) (o2 := 2) rfl (ev rfl) (by assumption) rfl rfl rfl (fun _ => (put_T rfl _)) (fun p24 hp24 => ?_);refine EvO.dstore hH rfl (ev rfl) (ev rfl) (by assumption) rfl rfl (by exact at1) (List.getElem?_set_self (by simp only [List.length_set,List.length_map]; omega)) (Nat.le_of_ble_eq_true rfl) (by intro d hd; simp only [List.mem_cons,List.not_mem_nil,or_false] at hd; subst hd; rfl) (by exact .inr rfl) (fun st hH => ?_);dsimp only [u1,u2,setMany] at hH;rw [List.set_set] at hH;refine zQ 5 ?_
 cases lz with
 | false =>
  refine zQ 2 ?_;refine ⟨fun i h => (by cases h),_,_,_,rfl,leaveD_rw rfl,?_⟩;exact ⟨rfl,by rw [List.map_set]; exact hH0.leaveRwD hS2 hH⟩
 | true =>
  refine zQ 14 ?_;refine EvO.addZ (z := ((at_ + 1 : Nat) : Int)) rfl (ev rfl) (ev rfl) (by (try simp only [List.length_reverse,List.length_cons,List.length_nil,List.length_append,List.length_map,List.length_set]); rw [wrap_i64 (by omega) (by omega)] <;> omega) (put_T rfl _) ?_;refine EvO.didx (s := 4) hH rfl (ev rfl) (ev rfl) (by exact at1) rfl rfl (by simp only [List.length_map,List.length_set] <;> omega) (fun _ => (put_T rfl _)) (fun p39 hp39 => ?_);refine EvO.ofieldN (fo := 1) (m := 0) (o2 := 1) rfl (ev rfl) (by assumption) rfl rfl rfl (fun _ => (put_T rfl _)) (fun p40 hp40 => ?_);refine EvO.dstore hH rfl (ev rfl) (ev rfl) (by assumption) rfl rfl (by exact at1) (List.getElem?_set_self (by simp only [List.length_set,List.length_map]; omega)) (Nat.le_of_ble_eq_true rfl) (by intro d hd; simp only [List.mem_cons,List.not_mem_nil,or_false] at hd; subst hd; rfl) (by exact .inr rfl) (fun st hH => ?_);dsimp only [u1,u2,setMany] at hH;rw [List.set_set] at hH;refine EvO.didx (s := 4) hH rfl (ev rfl) (ev rfl) (by exact at1) rfl rfl (by simp only [List.length_map,List.length_set] <;> omega) (fun _ => (put_T rfl _)) (fun p41 hp41 => ?_);refine EvO.ofieldN (fo := 2) (m := 0) (o2 := 2) rfl (ev rfl) (by assumption) rfl rfl rfl (fun _ => (put_T rfl _)) (fun p42 hp42 => ?_);refine EvO.dstore hH rfl (ev rfl) (ev rfl) (by assumption) rfl rfl (by exact at1) (List.getElem?_set_self (by simp only [List.length_set,List.length_map]; omega)) (Nat.le_of_ble_eq_true rfl) (by intro d hd; simp only [List.mem_cons,List.not_mem_nil,or_false] at hd; subst hd; rfl) (by exact .inr rfl) (fun st hH => ?_);dsimp only [u1,u2,setMany] at hH;rw [List.set_set] at hH;refine zQ 1 ?_;refine ⟨fun i h => (by cases h),_,_,_,rfl,leaveD_rw rfl,?_⟩;exact ⟨rfl,by rw [List.map_set]; exact hH0.leaveRwD hS2 hH⟩
end Go.Proofs.Ytapfahlbkhgdpaa
namespace Go.Proofs.Ytapfahlbkhgdpaa
open Go.V Go
def ixF_Qg (fr : Go.V.Fr) (k : Nat) : Go.V.D := Go.V.nth .junk fr.loc k
variable {bb : Bool}
def natC (n : Nat) : List D := [.int .i64 (n : Nat)]
theorem natC_get {l : List Nat} {i q : Nat} (h : l[i]? = some q) : (l.map natC)[i]? = some (natC q) := by rw [List.getElem?_map,h]; rfl
def MkH (bb : Bool) (N : Nat) (S st : St) (k : Nat) (nd zd ed : D) (Z E : List Int) (H : List Ent) (code : List PIns) : Prop :=
 ∃ cd ks,Has N S st (.box k (.mem 0 false [cd,nd,zd,ed]) :: .deepG bb ks cd 4 (code.map insC) :: .lst zd 1 (Z.map intC) :: .lst ed 1 (E.map intC) :: H)
def NodeSpec (bb : Bool) (l : List Nod) (t : Tr) : Prop := ∀ {N k : Nat} {S s0 : St} {H : List Ent} {nd zd ed : D} {code : List PIns} {Z E : List Int} {at_ : Nat},S.flr <= N -> SlD nd 7 (l.map nodC) -> Seg l at_ t.flat -> Seg Z at_ t.zs -> Seg E at_ (t.es at_) -> t.ok -> code.length + t.sz <= 1000000 -> MkH bb N S s0 k nd zd ed Z E H code ->
 ∃ r st',Ev pv 22 [.ptr k 0 0, .int .i64 (at_ : Nat)] s0 r st' /\ r = .tup [] /\ MkH bb N S st' k nd zd ed Z E H (code ++ codeT t code.length)
theorem es_head {E : List Int} {t : Tr} {a : Nat} (h : Seg E a (t.es a)) : E[a]? = some ((a + t.flat.length : Nat) : Int) := by
 obtain ⟨n,ks⟩ := t;simp only [Tr.es] at h;rw [h.head];simp only [Tr.flat,List.length_cons]
 congr 2; omega
theorem zs_head {Z : List Int} {t : Tr} {a : Nat} (h : Seg Z a t.zs) : Z[a]? = some ((min t.sz 401 : Nat) : Int) := by
 obtain ⟨n,ks⟩ := t;simp only [Tr.zs] at h;rw [h.head]; rfl
theorem alt_ev {l : List Nod} (hll : l.length <= 1048576) {m : Nat} (ih : ∀ t : Tr,t.flat.length <= m -> NodeSpec bb l t) {n : Nod} {ks : Trs} (hop : n.op = 4) (hkm : ks.flat.length <= m) (hno : nodOk n ks.len) (hks : ks.ok) {N k : Nat} {S s0 : St} {H : List Ent} {nd zd ed : D} {code : List PIns} {Z E : List Int} {at_ : Nat} (hF : S.flr <= N) (hnd : SlD nd 7 (l.map nodC)) (hsl : Seg l at_ (n :: ks.flat)) (hsz : Seg Z (at_ + 1) ks.zs) (hse : Seg E (at_ + 1) (ks.es (at_ + 1))) (hb : code.length + nodSz n ks.sz ks.len <= 1000000) (hM : MkH bb N S s0 k nd zd ed Z E H code) :
  ∃ r st',Ev pv 37 [.ptr k 0 0, .int .i64 (at_ : Nat)] s0 r st' /\ r = .tup [] /\ MkH bb N S st' k nd zd ed Z E H (code ++ altT (jpI (code.length + nodSz n ks.sz ks.len)) ks code.length) := by
 obtain ⟨cd,dk,hH⟩ := hM;have hle := hsl.le (by simp);simp only [List.length_cons] at hle;have hn := hsl.head;have hsl := hsl.tail;have hr1 := nod_get hn;have hkd := hno.1;have hkl := Trs.len_le ks
 have hk2 : 2 <= ks.len := by
  obtain ⟨_,hq⟩ := hno; omega
 have hns : nodSz n ks.sz ks.len = ks.sz + 2 * (ks.len - 1) := by unfold nodSz; rw [if_neg (by omega),if_pos hop]
 rw [hns] at hb ⊢;clear hns;refine Ev.mkE rfl fi37 rfl rfl rfl ?_;refine zE ?_;change EvC _ _ _ _ s0 _;have hc := hnd.arg N S;refine zQ 18 ?_;refine qr fun p17 hp17 => ?_;refine qf (fo := 6) fun p18 hp18 => ?_;refine zQ 3 ?_;have hH : Has N S s0 (.box k (.mem 0 false [cd,nd,zd,ed]) :: .deepG bb dk cd 4 (code.map insC) :: .lst zd 1 (Z.map intC) :: .lst ed 1 (E.map intC) :: .lst .nul 1 (([] : List Nat).map natC) :: H) := (hH.nulE 1).rot5;refine zQ 1 ?_;refine EvC.loop (fun mm fr st => ∃ (i j : Nat) (rest : Trs) (cd jd : D) (dk : Nat -> Prop) (code2 : List PIns) (js : List Nat),fr.clean = ⟨68, [.ptr k 0 0, .int .i64 (at_ : Nat),ixF_Qg fr 2,ixF_Qg fr 3,jd, .int .i64 (j : Nat),ixF_Qg fr 6,ixF_Qg fr 7,ixF_Qg fr 8,ixF_Qg fr 9,ixF_Qg fr 10,ixF_Qg fr 11,ixF_Qg fr 12,ixF_Qg fr 13,ixF_Qg fr 14,ixF_Qg fr 15,ixF_Qg fr 16,ixF_Qg fr 17,ixF_Qg fr 18, .int .i64 n.kids, .int .i64 (i : Nat),ixF_Qg fr 21,ixF_Qg fr 22,ixF_Qg fr 23,ixF_Qg fr 24,ixF_Qg fr 25,ixF_Qg fr 26,ixF_Qg fr 27,ixF_Qg fr 28,ixF_Qg fr 29,ixF_Qg fr 30,ixF_Qg fr 31,ixF_Qg fr 32,ixF_Qg fr 33,ixF_Qg fr 34,ixF_Qg fr 35,ixF_Qg fr 36,ixF_Qg fr 37,ixF_Qg fr 38,ixF_Qg fr 39,ixF_Qg fr 40,ixF_Qg fr 41,ixF_Qg fr 42,ixF_Qg fr 43,ixF_Qg fr 44,ixF_Qg fr 45,ixF_Qg fr 46,ixF_Qg fr 47,ixF_Qg fr 48,ixF_Qg fr 49,ixF_Qg fr 50,ixF_Qg fr 51,ixF_Qg fr 52,ixF_Qg fr 53,ixF_Qg fr 54,ixF_Qg fr 55,ixF_Qg fr 56,ixF_Qg fr 57,ixF_Qg fr 58,ixF_Qg fr 59,ixF_Qg fr 60,ixF_Qg fr 61,ixF_Qg fr 62,ixF_Qg fr 63,ixF_Qg fr 64,ixF_Qg fr 65,ixF_Qg fr 66,ixF_Qg fr 67], []⟩ /\ Has N S st (.box k (.mem 0 false [cd,nd,zd,ed]) :: .deepG bb dk cd 4 (code2.map insC) :: .lst zd 1 (Z.map intC) :: .lst ed 1 (E.map intC) :: .lst jd 1 (js.map natC) :: H) /\ (mm = rest.len) /\ (i + rest.len = ks.len) /\ (0 < rest.len) /\ (Seg l j rest.flat) /\ (Seg Z j rest.zs) /\ (Seg E j (rest.es j)) /\ (rest.ok) /\ (code2 ++ altT (jpI 0) rest code2.length = code ++ altT (jpI 0) ks code.length) /\ (js ++ altJ rest code2.length = altJ ks code.length) /\ (code2.length + (rest.sz + 2 * (rest.len - 1)) = code.length + (ks.sz + 2 * (ks.len - 1))) /\ (rest.flat.length <= m) /\ (js.length <= i)) (ks.len) ?_ ?_
 ·exact ⟨0,at_ + 1,ks,cd, .nul,dk,code, [],rfl,hH,rfl,by omega,by omega,hsl,hsz,hse,hks,rfl,rfl,rfl,hkm,by simp⟩
 rintro mm fr st ⟨i,j,rest,cd,jd,dk,code2,js,hfr,hH,hmm,hi2,hr0,hsg,hsgz,hsge,hrok,hcode,hjs,hcl,hrm,hjl⟩;rw [hfr];clear hfr;generalize ixF_Qg fr = ee;clear fr;refine zQ 4 ?_
 cases rest with
 | nil => simp [Trs.len] at hr0
 | cons t ts =>
  simp only [Trs.len] at hi2 hmm hcl;simp only [Trs.sz] at hcl;simp only [Trs.flat,List.length_append] at hsg hrm;simp only [Trs.zs] at hsgz;simp only [Trs.es] at hsge;simp only [Trs.ok] at hrok;have htz := t.zs_len;have hte := t.es_len j;have htc := codeT_len t (code2.length + 1) hrok.1;have hr11 := int_get (es_head hsge.left);have hcc : decide ((i : Int) < n.kids) = true := by rw [decide_eq_true_eq]; omega
  refine qq ?_;refine qD rfl (by rw [hcc]) ?_;refine zQ 17 ?_;refine qr fun p29 hp29 => ?_;refine qf (fo := 6) fun p30 hp30 => ?_;refine qR ?_;refine EvO.subZ (z := ((ks.len - 1 : Nat) : Int)) rfl (ev rfl) (ev rfl) (by (try simp only [List.length_reverse,List.length_cons,List.length_nil,List.length_append,List.length_map,List.length_set]); rw [wrap_i64 (by omega) (by omega)] <;> omega) (by dsimp only [Fr.put,u1,u2] <;> rfl) ?_;refine zQ 2 ?_
  by_cases hlast : ts.len = 0
  ·simp only [altT,altJ,if_pos hlast,List.append_nil] at hcode hjs;have htn := Trs.len_nil hlast;subst htn;simp only [Trs.sz,Trs.len] at hcl hi2;have hcc2 : (((i : Nat) : Int) == ((ks.len - 1 : Nat) : Int)) = true := by rw [beq_iff_eq]; omega
   refine qD rfl (by rw [hcc2]) ?_;refine zQ 4 ?_;obtain ⟨_,st,hev,rfl,cd,dk,hH⟩ := ih t (by omega) hF hnd hsg.left hsgz.left hsge.left hrok.1 (by omega) ⟨cd,dk,hH⟩;refine qv hev ?_;refine zQ 5 ?_;refine qn ?_ (hR := hH.rows at4);simp only [List.length_map];refine zQ 2 ?_;rw [hcode] at hH;have hal := altT_len (jpI 0) ks code.length hks;obtain ⟨hp1,hp2⟩ := alt_patch (jp := jpI (code.length + (ks.sz + 2 * (ks.len - 1)))) (i0 := jpI 0) ks code.length code [] hks rfl;simp only [List.append_nil] at hp1 hp2;have hC0 : (code ++ altT (jpI 0) ks code.length).length = code.length + (ks.sz + 2 * (ks.len - 1)) := by rw [List.length_append,hal]
   rw [<- hjs] at hp1 hp2;rw [<- hp1];clear hp1 hcode;generalize code ++ altT (jpI 0) ks code.length = C0 at *;generalize code.length + (ks.sz + 2 * (ks.len - 1)) = e at *;refine zQ 1 ?_;refine EvC.loop (fun mm fr st => ∃ (q : Nat) (C : List PIns),fr.clean = ⟨68, [.ptr k 0 0,ixF_Qg fr 1,ixF_Qg fr 2,ixF_Qg fr 3,ixF_Qg fr 4,ixF_Qg fr 5,ixF_Qg fr 6,ixF_Qg fr 7,ixF_Qg fr 8,ixF_Qg fr 9,ixF_Qg fr 10,ixF_Qg fr 11,ixF_Qg fr 12,ixF_Qg fr 13,ixF_Qg fr 14,ixF_Qg fr 15,ixF_Qg fr 16,ixF_Qg fr 17,ixF_Qg fr 18,ixF_Qg fr 19,ixF_Qg fr 20,ixF_Qg fr 21,ixF_Qg fr 22,ixF_Qg fr 23,ixF_Qg fr 24,ixF_Qg fr 25,ixF_Qg fr 26,ixF_Qg fr 27,ixF_Qg fr 28,ixF_Qg fr 29,ixF_Qg fr 30,ixF_Qg fr 31,ixF_Qg fr 32,ixF_Qg fr 33,ixF_Qg fr 34,ixF_Qg fr 35,ixF_Qg fr 36,ixF_Qg fr 37,ixF_Qg fr 38,ixF_Qg fr 39,ixF_Qg fr 40,ixF_Qg fr 41,ixF_Qg fr 42,ixF_Qg fr 43,ixF_Qg fr 44,ixF_Qg fr 45,ixF_Qg fr 46,ixF_Qg fr 47,ixF_Qg fr 48,ixF_Qg fr 49,ixF_Qg fr 50,ixF_Qg fr 51,ixF_Qg fr 52,ixF_Qg fr 53,ixF_Qg fr 54,ixF_Qg fr 55,ixF_Qg fr 56,ixF_Qg fr 57,ixF_Qg fr 58,ixF_Qg fr 59,ixF_Qg fr 60,ixF_Qg fr 61,ixF_Qg fr 62,ixF_Qg fr 63,ixF_Qg fr 64,jd, .int .i64 (js.length : Nat), .int .i64 (q : Nat)], []⟩ /\ Has N S st (.box k (.mem 0 false [cd,nd,zd,ed]) :: .deepG bb dk cd 4 (C.map insC) :: .lst zd 1 (Z.map intC) :: .lst ed 1 (E.map intC) :: .lst jd 1 (js.map natC) :: H) /\ (q + mm = js.length) /\ (setAll (fun _ => jpI e) C (js.drop q) = setAll (fun _ => jpI e) C0 js) /\ (∀ p ∈ js, ∃ v : Int,C[p]? = some (mkI 3 v 0 [])) /\ (C.length = e)) (js.length) ?_ ?_
   ·exact ⟨0,C0,rfl,hH,by omega,rfl,fun p hp => ⟨_,hp2 p hp⟩,hC0⟩
   rintro mm fr st ⟨q,C,hfr,hH,hq,hset,hall,hCl⟩;rw [hfr];clear hfr;generalize ixF_Qg fr = ee;clear fr;refine zQ 5 ?_;refine zP (fun hlt => ?_) fun hlt => ?_
   ·refine zQ 1 ?_;have hql : q < js.length := by omega
    obtain ⟨p,hp⟩ : ∃ p,js[q]? = some p := ⟨js[q]'hql,List.getElem?_eq_getElem _⟩
    obtain ⟨v,hv⟩ := hall p (List.mem_of_getElem? hp);have hr1 := natC_get hp;have hr2 := ins_get hv;have hpl := lt_get hv;refine zQ 4 ?_;refine qi hH at4 fun p69 hp69 => ?_;refine zQ 13 ?_;refine EvO.dlen hH rfl (ev rfl) (by exact at1) rfl (put_T rfl _) ?_;simp only [List.length_map];refine EvO.didx (s := 4) hH rfl (ev rfl) (ev rfl) (by exact at1) rfl rfl (by exact lt_get (by assumption)) (fun _ => (put_T rfl _)) (fun p81 hp81 => ?_);refine EvO.ofieldN (fo := 1) (m := 0) (o2 := 1) rfl (ev rfl) (by assumption) rfl rfl rfl (fun _ => (put_T rfl _)) (fun p82 hp82 => ?_);refine EvO.dstore hH rfl (ev rfl) (ev rfl) (by assumption) rfl rfl (by exact at1) (by assumption) (Nat.le_of_ble_eq_true rfl) (by intro d hd; simp only [List.mem_cons,List.not_mem_nil,or_false] at hd; subst hd; rfl) (by exact .inl hF) (fun st hH => ?_);dsimp only [u2,u1,u3,u4,setMany,u5,u6,D.cells,Nat.reduceAdd,insC,nodC,intC,natC] at hH;refine zQ 5 ?_
    have hdr : js.drop q = p :: js.drop (q + 1) := by
     rw [List.drop_eq_getElem_cons hql]
     congr 1
     exact Option.some.inj ((List.getElem?_eq_getElem _).symm.trans hp)
    refine ⟨mm - 1,by omega,⟨q + 1,C.set p (jpI e),rfl,(by rw [List.map_set, <- hCl]; exact hH),by omega,by rw [hdr] at hset; exact hset,?_,by rw [List.length_set]; exact hCl⟩⟩;intro p' hp'
    by_cases hpp : p' = p
    ·subst hpp; exact ⟨_,List.getElem?_set_self hpl⟩
    ·rw [List.getElem?_set_ne (fun e => hpp e.symm)]; exact hall p' hp'
   ·refine zQ 1 ?_;refine ⟨fun i h => (by cases h),_,_,_,rfl,rfl,?_⟩;have hq2 : q = js.length := by omega
    rw [hq2,List.drop_length] at hset;have hset : C = setAll (fun _ => jpI e) C0 js := hset;rw [<- hset];exact ⟨rfl,cd,dk,hH.erase 4⟩
  ·simp only [altT,altJ,if_neg hlast] at hcode hjs;have hcc2 : (((i : Nat) : Int) == ((ks.len - 1 : Nat) : Int)) = false := by rw [beq_eq_false_iff_ne]; omega
   refine qE rfl (by rw [hcc2]) ?_;refine zQ 4 ?_;refine EvO.go (d := .agg [.int .i64 2, .int .i64 0, .int .i64 0, .nul]) (st1 := _) rfl rfl rfl (by dsimp only [Fr.put,u1,u2] <;> rfl) ?_;have hH := hH.nulE 2;obtain ⟨_,st,hev,rfl,cd,dk,hH⟩ := add_ev (rs := []) hF (by omega) hH;refine qv hev ?_;refine zQ 2 ?_;have hcl1 : (code2 ++ [mkI 2 0 0 []]).length = code2.length + 1 := by simp
   refine zQ 4 ?_;obtain ⟨_,st,hev,rfl,cd,dk,hH⟩ := ih t (by omega) hF hnd hsg.left hsgz.left hsge.left hrok.1 (by omega) ⟨cd,dk,hH⟩;refine qv hev ?_;refine zQ 1 ?_;rw [hcl1] at hH;have hcl2 : (code2 ++ [mkI 2 0 0 []] ++ codeT t (code2.length + 1)).length = code2.length + 1 + t.sz := by rw [List.length_append,hcl1,htc]
   refine zQ 4 ?_;refine EvO.go (d := .agg [.int .i64 3, .int .i64 0, .int .i64 0, .nul]) (st1 := _) rfl rfl rfl (by dsimp only [Fr.put,u1,u2] <;> rfl) ?_;have hH := hH.nulE 2;obtain ⟨_,st,hev,rfl,cd,dk,hH⟩ := add_ev (rs := []) hF (by omega) hH;refine qv hev ?_;refine qh (s := 1) (vs := [_]) hH fun k47 st hk47 hH => ?_;refine qP hH at5 (hH.rows at0) fun x48 st hH => ?_;dsimp only [u2,u1,u3,u4,setMany,u5,u6,D.cells,Nat.reduceAdd,insC,nodC,intC,natC] at hH;refine zQ 2 ?_;have hH := hH.drop 1
   have hat3 : (code2 ++ [mkI 2 0 0 []] ++ codeT t (code2.length + 1) ++ [mkI 3 0 0 []])[code2.length]? = some (mkI 2 0 0 []) := by
    rw [List.append_assoc,List.append_assoc]; exact get_mid _ _ _
   have hcl3 : (code2 ++ [mkI 2 0 0 []] ++ codeT t (code2.length + 1) ++ [mkI 3 0 0 []]).length = code2.length + 1 + t.sz + 1 := by rw [List.length_append,hcl2]; rfl
   have hst3 : (code2 ++ [mkI 2 0 0 []] ++ codeT t (code2.length + 1) ++ [mkI 3 0 0 []]).set code2.length (spI code2.length (code2.length + 1 + t.sz + 1) false) = code2 ++ (spI code2.length (code2.length + 1 + t.sz + 1) false :: (codeT t (code2.length + 1) ++ [jpI 0])) := by
    rw [List.append_assoc,List.append_assoc]; exact set_mid _ _ _ _
   have hcl4 : (code2 ++ (spI code2.length (code2.length + 1 + t.sz + 1) false :: (codeT t (code2.length + 1) ++ [jpI 0]))).length = code2.length + t.sz + 2 := by rw [<- hst3,List.length_set,hcl3]; omega
   generalize code2 ++ [mkI 2 0 0 []] ++ codeT t (code2.length + 1) ++ [mkI 3 0 0 []] = code3 at *;refine zQ 8 ?_;refine EvO.dlen hH rfl (ev rfl) (by exact at1) rfl (by dsimp only [Fr.put,u1,u2] <;> rfl) ?_;simp only [List.length_map,List.length_append,List.length_cons,List.length_nil];obtain ⟨_,st,hev,rfl,hH⟩ := split_ev (at_ := code2.length) (over := code3.length) (lz := false) hat3 (by omega) hH;refine qv hev ?_;refine zQ 1 ?_;rw [hcl3,hst3] at hH;refine zQ 6 ?_;refine qi hH at3 fun p62 hp62 => ?_;refine zQ 7 ?_;exact ⟨mm - 1,by omega,⟨i + 1,j + t.flat.length,ts,cd,x48,dk,code2 ++ (spI code2.length (code2.length + 1 + t.sz + 1) false :: (codeT t (code2.length + 1) ++ [jpI 0])),js ++ [code2.length + 1 + t.sz],rfl,(by rw [List.map_append (f := natC)]; rw [hcl2] at hH; exact hH),by omega,by omega,by omega,hsg.right,by rw [<- htz]; exact hsgz.right,by rw [<- hte]; rw [<- hte] at hsge; exact hsge.right,hrok.2,by rw [hcl4, <- hcode]; simp only [List.append_assoc,List.cons_append,List.nil_append],by rw [hcl4, <- hjs]; simp only [List.append_assoc,List.cons_append,List.nil_append],by rw [hcl4]; omega,by omega,by rw [List.length_append]; simp only [List.length_cons,List.length_nil]; omega⟩⟩
end Go.Proofs.Ytapfahlbkhgdpaa
