/- own -/
import Derived.Test.YtnleclohocdkaaaWGQa
import Derived.Test.YtnleclohocdkaaaWGHr
import Derived.Test.YtnleclohocdkaaaWGQs
set_option linter.unusedSimpArgs false
set_option linter.unusedVariables false
set_option linter.unusedSectionVars false
set_option maxRecDepth 100000
set_option maxHeartbeats 4000000
namespace Go.V
variable {N : Nat} {S st : St} {H : List Ent}
theorem Has.rot (A B : List Ent) (h : Has N S st (A ++ (B ++ H))) : Has N S st (B ++ (A ++ H)) := by
  refine h.sub (fun i => if i < B.length then i + A.length else if i < B.length + A.length then i - B.length else i) (fun a b e => ?_) fun i e hi => ?_
  · have e' : (if a < B.length then a + A.length else if a < B.length + A.length then a - B.length else a) = (if b < B.length then b + A.length else if b < B.length + A.length then b - B.length else b) := e
    repeat' split at e'
    all_goals omega
  · show (A ++ (B ++ H))[if i < B.length then i + A.length else if i < B.length + A.length then i - B.length else i]? = some e
    by_cases h1 : i < B.length
    · rw [if_pos h1,List.getElem?_append_right (by omega),Nat.add_sub_cancel,List.getElem?_append_left h1]
      rwa [List.getElem?_append_left h1] at hi
    · rw [List.getElem?_append_right (by omega)] at hi
      by_cases h2 : i < B.length + A.length
      · rw [if_neg h1,if_pos h2,List.getElem?_append_left (by omega)]
        rwa [List.getElem?_append_left (by omega)] at hi
      · rw [if_neg h1,if_neg h2,List.getElem?_append_right (by omega),List.getElem?_append_right (by omega)]
        rw [List.getElem?_append_right (by omega)] at hi
        rw [<- hi]; congr 1; omega
theorem Has.repl {j : Nat} {e : Ent} (h : Has N S st (e :: H)) (hj : j < H.length) : Has N S st (H.set j e) :=
  Has.back (h.erase (j + 1)) hj
theorem Has.clear {P : Pv} {j : Nat} {x : D} {s : Nat} {es : List (List D)} {t e : TypeId} {z : List D} (h : Has N S st H) (hj : H[j]? = some (.lst x s es)) (ht : P.und t = some (.slice e)) (hz : zeroC P e = some z) (hzl : z.length = s) (hr : refs z = 0) :
    ∃ st',clearD P [t] x st = some (.tup [],st') /\ Has N S st' (H.set j (.lst x s (List.replicate es.length z))) := by
  have hk0 := (h.ok j _ hj).2
  have hown := h.own hj
  have hjl : j < H.length := by
    rcases Nat.lt_or_ge j H.length with h' | h'
    · exact h'
    · rw [List.getElem?_eq_none h'] at hj; cases hj
  cases hown with
  | nul =>
    refine ⟨st,by simp only [clearD,ht],?_⟩
    have : H.set j (.lst .nul s (List.replicate ([] : List (List D)).length z)) = H := by
      refine List.ext_getElem? fun i => ?_
      by_cases hi : i = j
      · subst hi; rw [List.getElem?_set_self hjl,hj]; rfl
      · rw [List.getElem?_set_ne (fun e => hi e.symm)]
    rw [this]; exact h
  | win k ver off es c hm hle hc he =>
    have hk := hk0 k (by simp only [Ent.lst,D.ref])
    have hrf : ∀ n,refs (Go.V.repl n z) = 0 := by
      intro n
      unfold Go.V.repl
      induction n with
      | zero => rfl
      | succ n ih =>
        rw [List.replicate_succ,List.flatten_cons]
        have happ : ∀ (a b : List D),refs a = 0 -> refs b = 0 -> refs (a ++ b) = 0 := by
          intro a
          induction a with
          | nil => intro b _ hb; exact hb
          | cons d a iha =>
            intro b ha hb
            simp only [refs,List.cons_append] at ha ⊢
            have := iha b (by omega) hb
            omega
        exact happ _ _ hr ih
    have hlr : (Go.V.repl es.length z).length = es.length * s := by
      unfold Go.V.repl
      rw [flat_len (s := s) (fun e he => by rw [(List.mem_replicate.1 he).2]; exact hzl),List.length_replicate]
    have hw : st.wr k ver off (Go.V.repl es.length z) = some ⟨st.bs.set k (.mem ver true (c.take off ++ Go.V.repl es.length z ++ c.drop (off + (Go.V.repl es.length z).length))),st.flr,st.ro⟩ := wr_own hm (by omega) (canW_has h hk.1 (.inr (hrf _)))
    refine ⟨_,by simp only [clearD,ht,hz,Option.bind_some]; rw [if_pos hzl,hw]; rfl,?_⟩
    refine h.upd hj (fun n hn hne => ?_) (by simp) rfl rfl ?_ (fun n hn => .inl hn) fun n hn => ?_
    · simp only; rw [List.getElem?_set_ne (fun e => hne (by simp only [Ent.lst,D.ref]; omega))]
    · have hlen' : ∀ e' ∈ List.replicate es.length z,e'.length = s := fun e' he' => by rw [(List.mem_replicate.1 he').2]; exact hzl
      have := OwnP.win (st := ⟨st.bs.set k (.mem ver true (c.take off ++ Go.V.repl es.length z ++ c.drop (off + (Go.V.repl es.length z).length))),st.flr,st.ro⟩) (s := s) k ver off (List.replicate es.length z) (c.take off ++ Go.V.repl es.length z ++ c.drop (off + (Go.V.repl es.length z).length))
        (by simp only; rw [List.getElem?_set_self hk.2]) (by rw [List.length_replicate]; simp; omega) ?_ hlen'
      · rw [List.length_replicate] at this; exact this
      · rw [List.length_replicate,List.append_assoc,List.drop_append_of_le_length (by simp; omega),List.drop_take,Nat.sub_self,List.take_zero,List.nil_append, <- hlr,List.take_left']
        · rfl
        · rfl
    · simp only [Ent.lst,D.ref] at hn
      have : n = k := by omega
      subst this
      simpa using hk.2
variable {P : Pv} {ops : Array Oper} {rest : List Oper} {fr fr' : Fr} {Q : Fr -> St -> Prop} {ty : TypeId} {pp : String} {a : Array Edge} {g : Option (Nat × Bool)} {dst : Nat}
end Go.V
namespace Go.Proofs.Ytnleclohocdkaaa
open Go.V Go
def ixF_Jr (fr : Go.V.Fr) (k : Nat) : Go.V.D := Go.V.nth .junk fr.loc k
def pgE (i : PIns) : Ent := .lst i.rd 2 (i.rs.map rangeC)
def insT (i : PIns) : Int × Int × Int × List Rg := (i.op,i.x,i.y,i.rs)
theorem okR_of {N : Nat} {S st : St} {H : List Ent} {p : Pg} (hH : Has N S st H) {a b : Nat} (h1 : H[a]? = some (.lst p.cd 4 (p.code.map insC))) (h2 : H[b]? = some (.lst p.sd 1 (p.starts.map intC))) (h3 : ∀ x ∈ p.code,pgE x ∈ H /\ x.rs.length <= 1048576) (hc : p.code.length <= 1048576) (hs : p.starts.length <= 1048576) : p.okR st := by
 refine ⟨hH.rows h1,hH.rows h2,fun x hx => ⟨?_,(h3 x hx).2⟩,hc,hs⟩;obtain ⟨j,hj⟩ := List.getElem?_of_mem (h3 x hx).1;exact hH.rows hj
theorem copyProgK_ev {N : Nat} {S s0 : St} {H : List Ent} {p : Pg} (hF : S.flr <= N) (hp : p.ok) (hcl : p.code.length <= 400) (hsl : p.starts.length <= 8) (hH : Has N S s0 H) :
  ∃ d st',Ev pv 14 [p.d] s0 d st' /\ ∃ q : Pg,d = .agg [q.cd,q.sd] /\ q.starts = p.starts /\ q.code.map insT = p.code.map insT /\ Has N S st' (.lst q.cd 4 (q.code.map insC) :: .lst q.sd 1 (q.starts.map intC) :: (q.code.map pgE ++ H)) := by
 have hc := hp.c.arg N S;have hs := hp.s.arg N S;unfold Pg.d;refine Ev.mkE rfl fi14 rfl rfl rfl ?_;refine zE ?_;change EvC _ _ _ _ s0 _;refine zQ 2 ?_;refine qb hH fun k1 st hk1 hH => ?_;dsimp only [u2,u1,u3,u4,setMany,u5,u6,D.cells,Nat.reduceAdd,insC,intC,Pg.cs] at hH;refine qa hH fun k2 st hk2 hH => ?_;refine zQ 3 ?_;refine EvO.hlist0 (s := 1) hH rfl rfl rfl rfl rfl (fun _ => (put_T rfl _)) (fun k6 st hk6 hH => ?_);refine zQ 2 ?_;refine EvO.happend (s := 1) hH rfl (ev rfl) (ev rfl) (by exact at0) (by exact Arg.rows (by assumption) hH) rfl rfl rfl rfl rfl rfl rfl ⟨(Nat.le_of_ble_eq_true rfl),(Nat.le_of_ble_eq_true rfl)⟩ (fun _ => (put_T rfl _)) (by simp only [List.length_nil,List.length_map] <;> omega) (by exact .inl hF) (fun x9 st hH => ?_);dsimp only [u2,u1,u3,u4,setMany,u5,u6,D.cells,Nat.reduceAdd,insC,intC,Pg.cs] at hH;refine EvO.ones (qs := [(1,_)]) rfl rfl rfl rfl ⟨rfl,(ev rfl),(by exact hH.ocells (by exact at0)),trivial⟩ (by intro q hq; simp only [List.mem_cons,List.not_mem_nil,or_false] at hq; rcases hq with rfl <;> exact ⟨rfl,by exact Nat.le_of_ble_eq_true rfl⟩) (by show List.foldl _ [_,_] _ = _; dsimp only [List.foldl_cons,List.foldl_nil,u2,u1] <;> rfl) (put_T rfl _) ?_;refine qa hH fun k3 st hk3 hH => ?_;refine qS hH at0 fun st hH => ?_;dsimp only [u2,u1,u3,u4,setMany,u5,u6,D.cells,Nat.reduceAdd,insC,intC,Pg.cs] at hH;refine zQ 6 ?_;have hH := hH.nulE 4;refine zQ 1 ?_;refine EvC.loop (fun mm fr st => ∃ (i : Nat) (cd : D) (M : List PIns),fr.clean = ⟨6, [ixF_Jr fr 0, .ptr k1 0 0, .ptr k2 0 0, .ptr k3 0 0, .int .i64 (i : Nat),ixF_Jr fr 5], []⟩ /\ Has N S st (.lst cd 4 (M.map insC) :: .box k3 (.mem 0 false [cd,x9]) :: .lst x9 1 (p.starts.map intC) :: .box k2 (.mem 0 false [.nul, .nul]) :: .box k1 (.mem 0 false [p.cd,p.sd]) :: (M.map pgE ++ H)) /\ (i + mm = p.code.length) /\ (M.map insT = (p.code.take i).map insT)) (p.code.length) ?_ ?_
 ·exact ⟨0, .nul, [],rfl,hH,by omega,rfl⟩
 rintro mm fr st ⟨i,cd,M,hfr,hH,hi,hM⟩;rw [hfr];clear hfr;generalize ixF_Jr fr = ee;clear fr
 have hMl : M.length = i := by
  have := congrArg List.length hM;rw [List.length_map,List.length_map,List.length_take] at this; omega
 refine zQ 6 ?_;refine qn ?_;simp only [List.length_map];refine zQ 2 ?_;refine zP (fun hlt => ?_) fun hlt => ?_
 ·refine zQ 1 ?_;have hil : i < p.code.length := by omega
  obtain ⟨q,hq⟩ : ∃ q,p.code[i]? = some q := ⟨p.code[i]'hil,List.getElem?_eq_getElem _⟩
  have hqo := hp.i q (List.mem_of_getElem? hq);have hqa := hqo.1.arg N S;have hqc := hqo.1.cells.1;have hql := hqo.2;have hr1 := ins_get hq;refine zQ 7 ?_;refine qr fun p21 hp21 => ?_;refine EvO.rloadS rfl (ev rfl) (by assumption) rfl (put_T rfl _) ?_;refine qa hH fun k5 st hk5 hH => ?_;refine qS hH at0 fun st hH => ?_;dsimp only [u2,u1,u3,u4,setMany,u5,u6,D.cells,Nat.reduceAdd,insC,intC,Pg.cs] at hH;refine zQ 3 ?_;refine EvO.hlist0 (s := 2) hH rfl rfl rfl rfl rfl (fun _ => (put_T rfl _)) (fun k23 st hk23 hH => ?_);refine zQ 3 ?_;refine qr fun p27 hp27 => ?_;refine qf (fo := 3) fun p28 hp28 => ?_;refine qR ?_;refine EvO.happend (s := 2) hH rfl (ev rfl) (ev rfl) (by exact at0) (by exact Arg.rows (by assumption) hH) rfl rfl rfl rfl rfl rfl rfl ⟨(Nat.le_of_ble_eq_true rfl),(Nat.le_of_ble_eq_true rfl)⟩ (fun _ => (put_T rfl _)) (by simp only [List.length_nil,List.length_map] <;> omega) (by exact .inl hF) (fun x30 st hH => ?_);dsimp only [u2,u1,u3,u4,setMany,u5,u6,D.cells,Nat.reduceAdd,insC,intC,Pg.cs] at hH;refine zQ 1 ?_;refine qT hH at1 (fun st hH => ?_) (hcs := hH.ocells at0);dsimp only [u2,u1,u3,u4,setMany,u5,u6,D.cells,Nat.reduceAdd,insC,intC,Pg.cs] at hH;refine zQ 4 ?_;refine EvO.hloadS (m := 4) hH rfl (ev rfl) (by exact at1) (by dsimp only [List.drop_succ_cons,List.drop_zero,List.take_succ_cons,List.take_zero,insC,intC,Pg.cs] <;> rfl) rfl rfl (put_T rfl _) ?_;refine qh (s := 4) (vs := [_]) hH fun k35 st hk35 hH => ?_;refine EvO.happend (s := 4) hH rfl (ev rfl) (ev rfl) (by exact at3) (by exact hH.rows (by exact at0)) rfl rfl rfl rfl rfl rfl rfl ⟨(Nat.le_of_ble_eq_true rfl),(Nat.le_of_ble_eq_true rfl)⟩ (fun _ => (put_T rfl _)) (by simp only [List.length_cons,List.length_nil,List.length_map] <;> omega) (by exact .inl hF) (fun x36 st hH => ?_);dsimp only [u2,u1,u3,u4,setMany,u5,u6,D.cells,Nat.reduceAdd,insC,intC,Pg.cs] at hH;refine zQ 1 ?_;refine qT hH at4 (fun st hH => ?_) (hcs := hH.ocells at3);dsimp only [u2,u1,u3,u4,setMany,u5,u6,D.cells,Nat.reduceAdd,insC,intC,Pg.cs] at hH;refine zQ 1 ?_;have hH := (hH.drop 1).erase 1;have hH := Has.rot [_] (_ :: _ :: _ :: _ :: _ :: M.map pgE) hH;refine zQ 5 ?_;refine ⟨mm - 1,by omega,⟨i + 1,x36,M ++ [⟨q.op,q.x,q.y,x30,q.rs⟩],rfl,?_,by omega,?_⟩⟩
  ·rw [List.map_append,List.map_append,List.append_assoc];exact hH
  ·rw [List.map_append,hM,List.take_add_one,hq,Option.toList_some,List.map_append]; rfl
 ·refine zQ 1 ?_;have hil : i = p.code.length := by omega
  rw [List.take_of_length_le (by omega)] at hM;refine zQ 2 ?_;refine EvO.hloadS (m := 2) hH rfl (ev rfl) (by exact at1) (by dsimp only [List.drop_succ_cons,List.drop_zero,List.take_succ_cons,List.take_zero,insC,intC,Pg.cs] <;> rfl) rfl rfl (put_T rfl _) ?_;refine qS hH at3 fun st hH => ?_;dsimp only [u2,u1,u3,u4,setMany,u5,u6,D.cells,Nat.reduceAdd,insC,intC,Pg.cs] at hH;refine zQ 1 ?_;refine EvC.ret ⟨rx,_,_,_,hH.resCell rfl at3 rfl,rfl,?_⟩;exact ⟨⟨cd,M,x9,p.starts⟩,rfl,rfl,hM,((hH.erase 1).erase 2).erase 2⟩
end Go.Proofs.Ytnleclohocdkaaa
