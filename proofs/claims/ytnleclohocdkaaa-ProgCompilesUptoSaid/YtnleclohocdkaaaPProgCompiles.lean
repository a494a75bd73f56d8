/- own -/
import Derived.Test.YtnleclohocdkaaaPGQe
import Derived.Test.YtnleclohocdkaaaPGJq
import Derived.Test.YtnleclohocdkaaaRows
import Derived.WalkKit
import Derived.ProofKit
import Derived.OpenShut
import Derived.JoinedCond
import Derived.ChangeOld
set_option maxRecDepth 100000
set_option maxHeartbeats 4000000
set_option linter.unusedSimpArgs false
set_option linter.unusedVariables false
namespace Go.Proofs.Ytnleclohocdkaaa.progCompiles
open Go.ChangeShapes Go.WideShapes Go.ChangeAt Go.RowKit Go.V
def ixF_ProgCompilesLaw (fr : Go.V.Fr) (k : Nat) : Go.V.D := Go.V.nth .junk fr.loc k
theorem few12_ev {s0 : St} {x : D} {l : List Nl} (hx : SlD x 1 (l.map nlC)) : ∃ d,Ev pv 18 [x] s0 d s0 /\ SlD d 1 ((l.take 12).map nlC) := by
 have hcl := hx.cells.1
 refine Ev.mkR rfl fi18 rfl rfl rfl ?_
 dsimp only [List.cons_append,List.nil_append,List.length,Nat.reduceSub,Nat.reduceAdd,List.replicate_succ,List.replicate_zero]
 have hSb : (enterSt .ro s0).bs = s0.bs := rfl
 have hF : (enterSt .ro s0).flr <= s0.bs.length := Nat.le_refl _
 have hH : Has s0.bs.length (enterSt .ro s0) (enterSt .ro s0) [] := Has.start (Nat.le_refl _) (Nat.le_refl _)
 generalize enterSt .ro s0 = S at *
 have hxa := hx.arg s0.bs.length S
 try change EvC _ _ _ _ _ _
 repeat refine EvC.seq ?_
 try generalize hK : SeqQ _ _ _ _ = K
 refine EvC.reg ?_
 refine EvO.mv (.inr rfl) rfl (ev rfl) (by dsimp only [Fr.put,List.set_cons_succ,List.set_cons_zero] <;> rfl) ?_
 refine EvO.nil ?_
 try subst hK
 try change EvC _ _ _ _ _ _
 try change EvC _ _ _ _ _ _
 repeat refine EvC.seq ?_
 try generalize hK : SeqQ _ _ _ _ = K
 refine EvC.reg ?_
 refine EvO.mv (.inl rfl) rfl (ev rfl) (put_T rfl _) ?_
 first | refine EvO.rlen rfl (ev rfl) (Arg.rows (by assumption) hH) rfl (put_T rfl _) ?_ | refine EvO.rlen rfl (ev rfl) (hH.rows (by first | exact at0 | exact at1 | exact at2 | exact at3 | exact at4 | exact at5 | exact at6 | exact at7)) rfl (put_T rfl _) ?_ | refine EvO.slen rfl rfl rfl (put_T rfl _) ?_ | refine EvO.go rfl rfl rfl (put_T rfl _) ?_
 try simp only [List.length_map,List.length_append,List.length_cons,List.length_nil,List.length_set,List.length_replicate,List.length_reverse]
 refine EvO.go rfl rfl rfl (put_T rfl _) ?_
 refine EvO.nil ?_
 try subst hK
 try change EvC _ _ _ _ _ _
 try change EvC _ _ _ _ _ _
 repeat refine EvC.seq ?_
 refine EvC.cond (by first | rfl | assumption) (fun h1 => ?_) (fun h1 => ?_) <;> try simp only [decide_eq_true_eq,decide_eq_false_iff_not,beq_iff_eq,beq_eq_false_iff_ne,bne_iff_ne,bne_eq_false_iff_eq,ne_eq,Bool.not_eq_true',Bool.not_eq_false',Bool.not_eq_true,Bool.not_eq_false] at h1
 ·try change EvC _ _ _ _ _ _
  repeat refine EvC.seq ?_
  try generalize hK : SeqQ _ _ _ _ = K
  refine EvC.reg ?_
  refine EvO.mv (.inl rfl) rfl (ev rfl) (put_T rfl _) ?_
  first | refine EvO.pslice rfl (ev rfl) (by assumption) rfl rfl (bounds_to (by first | omega | (simp only [List.length_map,List.length_reverse,List.length_cons,List.length_append,List.length_nil,List.length_take,List.length_drop,List.length_set,List.length_replicate]; omega))) (fun _ => (put_T rfl _)) (fun y7 hy7 => ?_) | refine EvO.rslice rfl (ev rfl) (by assumption) hH rfl rfl (bounds_to (by first | omega | (simp only [List.length_map,List.length_reverse,List.length_cons,List.length_append,List.length_nil,List.length_take,List.length_drop,List.length_set,List.length_replicate]; omega))) ⟨(by first | omega | (simp only [List.length_map,List.length_reverse,List.length_cons,List.length_append,List.length_nil,List.length_take,List.length_drop,List.length_set,List.length_replicate]; omega)),(by first | omega | (simp only [List.length_map,List.length_reverse,List.length_cons,List.length_append,List.length_nil,List.length_take,List.length_drop,List.length_set,List.length_replicate]; omega))⟩ (fun _ => (put_T rfl _)) (fun y7 hy7 => ?_) | (refine EvO.oslice hH rfl (ev rfl) (by first | exact at0 | exact at1 | exact at2 | exact at3 | exact at4 | exact at5 | exact at6 | exact at7) rfl rfl (bounds_to (by first | omega | (simp only [List.length_map,List.length_reverse,List.length_cons,List.length_append,List.length_nil,List.length_take,List.length_drop,List.length_set,List.length_replicate]; omega))) ⟨(by first | omega | (simp only [List.length_map,List.length_reverse,List.length_cons,List.length_append,List.length_nil,List.length_take,List.length_drop,List.length_set,List.length_replicate]; omega)),(by first | omega | (simp only [List.length_map,List.length_reverse,List.length_cons,List.length_append,List.length_nil,List.length_take,List.length_drop,List.length_set,List.length_replicate]; omega))⟩ (fun _ => (put_T rfl _)) (fun y7 hH => ?_))
  refine EvO.mv (.inr rfl) rfl (ev rfl) (by dsimp only [Fr.put,List.set_cons_succ,List.set_cons_zero] <;> rfl) ?_
  refine EvO.nil ?_
  try subst hK
  try change EvC _ _ _ _ _ _
  rw [List.drop_zero, <- List.map_take] at hy7
  obtain ⟨y',h2,h3⟩ := hy7.freeze S s0.bs.length 15
  exact EvC.ret ⟨fun i h => (by cases h),_,_,rfl,leave_ro (by simp) hSb hH h2,h3⟩
 ·refine EvC.skip ?_
  try change EvC _ _ _ _ _ _
  try change EvC _ _ _ _ _ _
  repeat refine EvC.seq ?_
  try generalize hK : SeqQ _ _ _ _ = K
  refine EvC.reg ?_
  refine EvO.mv (.inl rfl) rfl (ev rfl) (put_T rfl _) ?_
  refine EvO.mv (.inr rfl) rfl (ev rfl) (by dsimp only [Fr.put,List.set_cons_succ,List.set_cons_zero] <;> rfl) ?_
  refine EvO.nil ?_
  try subst hK
  try change EvC _ _ _ _ _ _
  obtain ⟨y',h2,h3⟩ := hx.freeze S s0.bs.length 15
  exact EvC.ret ⟨fun i h => (by cases h),_,_,rfl,leave_ro (by simp) hSb hH h2,by rw [List.take_of_length_le (by omega)]; exact h3⟩
def cpL (r : Nl) : Nl := ⟨nlD (r.l.map cpN),r.l.map cpN⟩
theorem cpL_v {r : Nl} (h : r.ok) : (cpL r).ok /\ ∀ n ∈ (cpL r).l,n.rd = rangesV n.rs := by
 have hv : ∀ n ∈ r.l.map cpN,n.rd = rangesV n.rs := fun n hn => by obtain ⟨m,_,rfl⟩ := List.mem_map.1 hn; rfl
 refine ⟨⟨?_,fun n hn => ?_,by show (r.l.map cpN).length <= _; rw [List.length_map]; exact h.nl⟩,hv⟩
 ·refine SlD.frozen (fun e he => ?_) fun e he d hd => ?_
  ·obtain ⟨n,_,rfl⟩ := List.mem_map.1 he; rfl
  ·obtain ⟨n,hn,rfl⟩ := List.mem_map.1 he
   have := hv n hn
   simp only [nodC,List.mem_cons,List.not_mem_nil,or_false] at hd
   rcases hd with rfl | rfl | rfl | rfl | rfl | rfl | rfl <;> first | rfl | (rw [this]; rfl)
 ·obtain ⟨m,hm,rfl⟩ := List.mem_map.1 hn
  have := h.i m hm
  exact ⟨ranges_sl m.rs,this.2⟩
theorem compileS_v {ls : List (List Nod)} (h : ∀ l ∈ ls, ∀ n ∈ l,n.rs.length <= 1048576) : ∀ i ∈ (compileS ls).code,InsV i := by
 unfold compileS
 split
 ·intro i hi; cases hi
 ·exact (compS_ok ls 0 [] [] h (fun i hi => by cases hi) (by simp) (by simp)).1
variable {P : Pv} {ops : Array Oper} {rest : List Oper} {fr fr' : Fr} {Q : Fr -> St -> Prop} {ty : TypeId} {pp : String} {a : Array Edge} {g : Option (Nat × Bool)} {dst : Nat} {N : Nat} {S st : St} {H : List Ent}
theorem EvO.widx {t e : TypeId} {xo io : Operand} {k v off m s q : Nat} {kk : IntKind} (hg : wantD ops fr ⟨some dst, .indexAddr t xo io,ty,pp,a,g⟩ = some true) (hx : fr.ev xo = .win k v off m s) (hi : fr.ev io = .int kk (q : Nat)) (ht : P.und t = some (.slice e)) (hs : szOf P e = some s) (hm : (st.mem? k v).isSome = true) (hq : q < m) (hp : fr.put dst (.ptr k v (off + q * s)) = fr')
  (h : EvO P ops rest fr' st Q) : EvO P ops (⟨some dst, .indexAddr t xo io,ty,pp,a,g⟩ :: rest) fr st Q := by
 refine EvO.go hg rfl (d := .ptr k v (off + q * s)) (st1 := st) ?_ hp h
 simp only [opD,hx,hi,indexAddrD,ht,hs,Option.bind_some]
 rw [if_pos ⟨trivial,by omega,by omega,hm⟩]; rfl
theorem EvO.wstore {t : TypeId} {ao vo : Operand} {k v off : Nat} {d : D} {cs : List D} {st' : St} (hg : wantD ops fr ⟨none, .store t ao vo,ty,pp,a,g⟩ = some true) (ha : fr.ev ao = .ptr k v off) (hv : fr.ev vo = d) (hcs : d.cells? = some cs) (hs : szOf P t = some cs.length) (hw : st.wr k v off cs = some st')
  (h : EvO P ops rest fr st' Q) : EvO P ops (⟨none, .store t ao vo,ty,pp,a,g⟩ :: rest) fr st Q := by
 refine EvO.N hg rfl (d := .tup []) (st1 := st') ?_ h
 simp only [opD,ha,hv,storeD,hcs,hs,if_pos trivial,hw]; rfl
theorem spo_rows {ks : Nat -> Prop} {x : D} {M : List PIns} {j : Nat} (h : Has N S st H) (hj : H[j]? = some (spoE ks x M)) : V.Rows st 4 x (M.map insC) := (h.ok j _ hj).1.1.rows
theorem spo_rd {ks : Nat -> Prop} {x : D} {M : List PIns} {j : Nat} {m : PIns} (h : Has N S st H) (hj : H[j]? = some (spoE ks x M)) (hm : m ∈ M) : ∃ s fs,V.Rows st s m.rd fs /\ fs.length = m.rs.length := by
 obtain ⟨s,fs,h1,h2,_⟩ := (h.ok j _ hj).1.2.2 m hm
 exact ⟨s,fs,h1.rows,h2⟩
theorem law {s0 : St} (x : D) (rules : List Nl) (hx : SlD x 1 (rules.map nlC)) (hrl : rules.length <= 1048576 /\ ∀ r ∈ rules,r.ok) : Ev pv 4 [x] s0 (.bool true) s0 := by
 refine Ev.mk1 rfl fi4 rfl rfl rfl ?_
 dsimp only [List.cons_append,List.nil_append,List.length,Nat.reduceSub,Nat.reduceAdd,List.replicate_succ,List.replicate_zero]
 have hSb : (enterSt .ro s0).bs = s0.bs := rfl
 have hF : (enterSt .ro s0).flr <= s0.bs.length := Nat.le_refl _
 have hH : Has s0.bs.length (enterSt .ro s0) (enterSt .ro s0) [] := Has.start (Nat.le_refl _) (Nat.le_refl _)
 generalize enterSt .ro s0 = S at *
 try change EvC _ _ _ _ _ _
 repeat refine EvC.seq ?_
 try generalize hK : SeqQ _ _ _ _ = K
 refine EvC.reg ?_
 refine EvO.mv (.inr rfl) rfl (ev rfl) (by dsimp only [Fr.put,List.set_cons_succ,List.set_cons_zero] <;> rfl) ?_
 refine EvO.nil ?_
 try subst hK
 try change EvC _ _ _ _ _ _
 obtain ⟨y,hev,hy⟩ := few12_ev (s0 := S) hx
 have hl12 : (rules.take 12).length <= 12 := by rw [List.length_take]; omega
 have hro : ∀ r ∈ rules.take 12,r.ok := fun r hr => hrl.2 r (List.mem_of_mem_take hr)
 generalize rules.take 12 = l at *
 clear hx hrl
 have hya := hy.arg s0.bs.length S
 have hnl : (l.map nlC).length = l.length := List.length_map ..
 try change EvC _ _ _ _ _ _
 repeat refine EvC.seq ?_
 try generalize hK : SeqQ _ _ _ _ = K
 refine EvC.reg ?_
 refine EvO.mv (.inl rfl) rfl (ev rfl) (put_T rfl _) ?_
 refine EvO.hcall rfl rfl (hev) (put_T rfl _) ?_
 refine EvO.mv (.inr rfl) rfl (ev rfl) (by dsimp only [Fr.put,List.set_cons_succ,List.set_cons_zero] <;> rfl) ?_
 refine EvO.nil ?_
 try subst hK
 try change EvC _ _ _ _ _ _
 try change EvC _ _ _ _ _ _
 repeat refine EvC.seq ?_
 try generalize hK : SeqQ _ _ _ _ = K
 refine EvC.reg ?_
 refine EvO.mv (.inr rfl) rfl (ev rfl) (by dsimp only [Fr.put,List.set_cons_succ,List.set_cons_zero] <;> rfl) ?_
 refine EvO.nil ?_
 try subst hK
 try change EvC _ _ _ _ _ _
 try change EvC _ _ _ _ _ _
 repeat refine EvC.seq ?_
 try generalize hK : SeqQ _ _ _ _ = K
 refine EvC.reg ?_
 refine EvO.mv (.inr rfl) rfl (ev rfl) (by dsimp only [Fr.put,List.set_cons_succ,List.set_cons_zero] <;> rfl) ?_
 refine EvO.nil ?_
 try subst hK
 try change EvC _ _ _ _ _ _
 have hH := hH.nulE 1
 try change EvC _ _ _ _ _ _
 repeat refine EvC.seq ?_
 refine EvC.block ?_
 refine EvC.loop (fun mm fr st => ∃ (i : Nat) (w : D),fr.clean = ⟨14, [y,ixF_ProgCompilesLaw fr 1,ixF_ProgCompilesLaw fr 2,w, .int .i64 (i : Nat),ixF_ProgCompilesLaw fr 5,ixF_ProgCompilesLaw fr 6,ixF_ProgCompilesLaw fr 7,ixF_ProgCompilesLaw fr 8,ixF_ProgCompilesLaw fr 9,ixF_ProgCompilesLaw fr 10,ixF_ProgCompilesLaw fr 11,ixF_ProgCompilesLaw fr 12,ixF_ProgCompilesLaw fr 13], []⟩ /\ Has s0.bs.length S st [.lst w 1 (((l.take i).map cpL).map nlC)] /\ (i + mm = l.length)) (l.length) ?_ ?_
 ·exact ⟨0, .nul,rfl,hH,by omega⟩
 rintro mm fr st ⟨i,w,hfr,hH,hi⟩
 rw [hfr]
 clear hfr
 try generalize ixF_ProgCompilesLaw fr = ee
 clear fr
 try change EvC _ _ _ _ _ _
 try change EvC _ _ _ _ _ _
 repeat refine EvC.seq ?_
 try generalize hK : SeqQ _ _ _ _ = K
 refine EvC.reg ?_
 refine EvO.mv (.inl rfl) rfl (ev rfl) (put_T rfl _) ?_
 refine EvO.mv (.inl rfl) rfl (ev rfl) (put_T rfl _) ?_
 first | refine EvO.rlen rfl (ev rfl) (Arg.rows (by assumption) hH) rfl (put_T rfl _) ?_ | refine EvO.rlen rfl (ev rfl) (hH.rows (by first | exact at0 | exact at1 | exact at2 | exact at3 | exact at4 | exact at5 | exact at6 | exact at7)) rfl (put_T rfl _) ?_ | refine EvO.slen rfl rfl rfl (put_T rfl _) ?_ | refine EvO.go rfl rfl rfl (put_T rfl _) ?_
 try simp only [List.length_map,List.length_append,List.length_cons,List.length_nil,List.length_set,List.length_replicate,List.length_reverse]
 refine EvO.go rfl rfl rfl (put_T rfl _) ?_
 refine EvO.nil ?_
 try subst hK
 try change EvC _ _ _ _ _ _
 try change EvC _ _ _ _ _ _
 repeat refine EvC.seq ?_
 refine EvC.cond (by first | rfl | assumption) (fun h1 => ?_) (fun h1 => ?_) <;> try simp only [decide_eq_true_eq,decide_eq_false_iff_not,beq_iff_eq,beq_eq_false_iff_ne,bne_iff_ne,bne_eq_false_iff_eq,ne_eq,Bool.not_eq_true',Bool.not_eq_false',Bool.not_eq_true,Bool.not_eq_false] at h1
 ·refine EvC.skip ?_
  try change EvC _ _ _ _ _ _
  obtain ⟨q,hq⟩ : ∃ q,l[i]? = some q := ⟨l[i]'(by omega),List.getElem?_eq_getElem _⟩
  have hr1 := nl_get hq
  have hqo := hro q (List.mem_of_getElem? hq)
  have hcn := fun st => copyNodes_ev (s0 := st) hqo
  have htl : (((l.take i).map cpL).map nlC).length <= 12 := by rw [List.length_map,List.length_map,List.length_take]; omega
  have htl2 : (l.take i).length <= 12 := by rw [List.length_take]; omega
  unfold nlD at hcn
  try change EvC _ _ _ _ _ _
  repeat refine EvC.seq ?_
  refine EvC.block ?_
  try change EvC _ _ _ _ _ _
  repeat refine EvC.seq ?_
  try generalize hK : SeqQ _ _ _ _ = K
  refine EvC.reg ?_
  refine EvO.mv (.inl rfl) rfl (ev rfl) (put_T rfl _) ?_
  refine EvO.mv (.inl rfl) rfl (ev rfl) (put_T rfl _) ?_
  refine EvO.mv (.inl rfl) rfl (ev rfl) (put_T rfl _) ?_
  first | refine EvO.ridx rfl (ev rfl) (ev rfl) (Arg.rows (by assumption) hH) rfl rfl (by assumption) (fun _ => (put_T rfl _)) (fun p25 hp25 => ?_) | refine EvO.oidx hH rfl (ev rfl) (ev rfl) (by first | exact at0 | exact at1 | exact at2 | exact at3 | exact at4 | exact at5 | exact at6 | exact at7) rfl rfl (by first | exact lt_get (by assumption) | omega | (simp only [List.length_map,List.length_append,List.length_cons,List.length_nil,List.length_set,List.length_replicate] <;> omega)) (fun _ => (put_T rfl _)) (fun p25 hp25 => ?_)
  first | refine EvO.rload rfl (ev rfl) (by assumption) rfl (put_T rfl _) ?_ | refine EvO.oload hH rfl (ev rfl) (by assumption) (by first | exact at0 | exact at1 | exact at2 | exact at3 | exact at4 | exact at5 | exact at6 | exact at7) (by assumption) rfl (put_T rfl _) ?_ | refine EvO.hload hH rfl (ev rfl) (by first | exact at0 | exact at1 | exact at2 | exact at3 | exact at4 | exact at5 | exact at6 | exact at7) rfl (put_T rfl _) ?_
  refine EvO.hcall rfl rfl (hcn _) (put_T rfl _) ?_
  refine EvO.hlist (s := 1) (vs := [_]) hH rfl rfl rfl rfl rfl (Nat.le_of_ble_eq_true rfl) ⟨rfl,(ev rfl),trivial⟩ rfl (by intro v hv; first | (cases hv; done) | (simp only [List.mem_cons,List.not_mem_nil,or_false] at hv; rcases hv with rfl <;> exact ⟨rfl,rfl⟩)) (fun _ => (put_T rfl _)) (fun k28 st hk28 hH => ?_)
  try dsimp only [List.set_cons_zero,List.set_cons_succ,List.cons_append,List.nil_append,setMany,List.map_cons,List.map_nil,D.cells,Nat.reduceAdd,List.nil_append,insC,nodC,intC,nlC,Pg.d,Pg.cs] at hH
  refine EvO.happend (s := 1) hH rfl (ev rfl) (ev rfl) (by first | exact at0 | exact at1 | exact at2 | exact at3 | exact at4 | exact at5 | exact at6 | exact at7) (by first | exact hH.rows (by first | exact at0 | exact at1 | exact at2 | exact at3 | exact at4 | exact at5 | exact at6 | exact at7) | exact Arg.rows (by assumption) hH) rfl rfl rfl rfl rfl rfl rfl ⟨(Nat.le_of_ble_eq_true rfl),(Nat.le_of_ble_eq_true rfl)⟩ (fun _ => (put_T rfl _)) (by first | omega | (simp only [List.length_append,List.length_cons,List.length_nil,List.length_map,List.length_replicate,List.length_set,List.length_reverse] <;> omega)) (by first | exact .inl hF | exact .inr rfl | exact .inr (by assumption)) (fun x29 st hH => ?_)
  try dsimp only [List.set_cons_zero,List.set_cons_succ,List.cons_append,List.nil_append,setMany,List.map_cons,List.map_nil,D.cells,Nat.reduceAdd,List.nil_append,insC,nodC,intC,nlC,Pg.d,Pg.cs] at hH
  refine EvO.mv (.inr rfl) rfl (ev rfl) (by dsimp only [Fr.put,List.set_cons_succ,List.set_cons_zero] <;> rfl) ?_
  refine EvO.nil ?_
  try subst hK
  try change EvC _ _ _ _ _ _
  try change EvC _ _ _ _ _ _
  repeat refine EvC.seq ?_
  try generalize hK : SeqQ _ _ _ _ = K
  refine EvC.reg ?_
  refine EvO.mv (.inl rfl) rfl (ev rfl) (put_T rfl _) ?_
  refine EvO.addZ (z := ((i + 1 : Nat) : Int)) rfl (ev rfl) (ev rfl) (by (try simp only [List.length_reverse,List.length_cons,List.length_nil,List.length_append,List.length_map,List.length_set]); first | (rw [wrap_i64 (by omega) (by omega)] <;> omega) | (rw [wrap_i32 (by omega) (by omega)] <;> omega)) (put_T rfl _) ?_
  refine EvO.mv (.inr rfl) rfl (ev rfl) (by dsimp only [Fr.put,List.set_cons_succ,List.set_cons_zero] <;> rfl) ?_
  refine EvO.nil ?_
  try subst hK
  try change EvC _ _ _ _ _ _
  exact ⟨mm - 1,by omega,⟨i + 1,_,rfl,(by rw [List.take_add_one,hq,Option.toList_some,List.map_append,List.map_append]; exact hH.drop 1),by omega⟩⟩
 ·try change EvC _ _ _ _ _ _
  refine EvC.exit ?_
  try change EvC _ _ _ _ _ _
  rw [List.take_of_length_le (by omega)] at hH
  have hrs : ∀ k ∈ l.map (·.l), ∀ n ∈ k,n.rs.length <= 1048576 := fun k hk n hn => by
   obtain ⟨r,hr,rfl⟩ := List.mem_map.1 hk
   exact ((hro r hr).i n hn).2.1
  have hcv := compileS_v hrs
  obtain ⟨hok,hc400⟩ := compileS_ok hrs
  have hW : ((l.map cpL).map (·.l)) = (l.map (·.l)).map (·.map cpN) := by rw [List.map_map,List.map_map]; rfl
  obtain ⟨_,st1,hev1,cd,sd,ks,rfl,hH1⟩ := compileK_ev hF hya hro (by omega) hH
  have hrc := fun (st : St) (h : V.Rows st 1 w ((l.map cpL).map nlC)) => rcompileW_ev (s0 := st) h (fun r hr => by obtain ⟨q,hq,rfl⟩ := List.mem_map.1 hr; exact cpL_v (hro q hq)) (by rw [List.length_map]; omega)
  rw [hW,compile_cp] at hrc
  generalize hR : compileS (l.map (·.l)) = R at *
  have hQ := hok
  have hsl := hok.sl
  unfold compD Pg.d Pg.cs at hrc
  have hcd1 := Has.dcells hH1 (j := 0) rfl
  have hcd2 := hH1.ocells at1
  try change EvC _ _ _ _ _ _
  repeat refine EvC.seq ?_
  try generalize hK : SeqQ _ _ _ _ = K
  refine EvC.reg ?_
  refine EvO.mv (.inl rfl) rfl (ev rfl) (put_T rfl _) ?_
  have hH := hH1
  refine EvO.hcall rfl rfl hev1 (put_T rfl _) ?_
  refine EvO.mv (.inl rfl) rfl (ev rfl) (put_T rfl _) ?_
  refine EvO.go rfl rfl rfl (put_T rfl _) ?_
  refine EvO.go rfl rfl rfl (put_T rfl _) ?_
  refine EvO.go rfl rfl rfl (put_T rfl _) ?_
  refine EvO.halloc hH rfl rfl (fun _ => by dsimp only [Fr.put,List.set_cons_succ,List.set_cons_zero] <;> rfl) (fun k5 st hk5 hH => ?_)
  try dsimp only [List.set_cons_zero,List.set_cons_succ,List.cons_append,List.nil_append,setMany,List.map_cons,List.map_nil,D.cells,Nat.reduceAdd,List.nil_append,insC,nodC,intC,nlC,Pg.d,Pg.cs] at hH
  refine EvO.hstoreA hH rfl (ev rfl) (ev rfl) (by first | rfl | exact (SlD.cells (by assumption)).1 | exact hH.ocells (by first | exact at0 | exact at1 | exact at2 | exact at3 | exact at4 | exact at5 | exact at6 | exact at7) | exact hH.dcells (by first | exact at0 | exact at1 | exact at2 | exact at3 | exact at4 | exact at5 | exact at6 | exact at7) | assumption) (by exact rfl) (by first | exact at0 | exact at1 | exact at2 | exact at3 | exact at4 | exact at5 | exact at6 | exact at7) (by exact rfl) (by first | exact .inl hF | exact .inr rfl | exact .inr (by assumption)) (fun st hH => ?_)
  try dsimp only [List.set_cons_zero,List.set_cons_succ,List.cons_append,List.nil_append,setMany,List.map_cons,List.map_nil,D.cells,Nat.reduceAdd,List.nil_append,insC,nodC,intC,nlC,Pg.d,Pg.cs] at hH
  refine EvO.mv (.inr rfl) rfl (ev rfl) (by dsimp only [Fr.put,List.set_cons_succ,List.set_cons_zero] <;> rfl) ?_
  refine EvO.mv (.inr rfl) rfl (ev rfl) (by dsimp only [Fr.put,List.set_cons_succ,List.set_cons_zero] <;> rfl) ?_
  refine EvO.nil ?_
  try subst hK
  try change EvC _ _ _ _ _ _
  try change EvC _ _ _ _ _ _
  repeat refine EvC.seq ?_
  try generalize hK : SeqQ _ _ _ _ = K
  refine EvC.reg ?_
  refine EvO.mv (.inl rfl) rfl (ev rfl) (put_T rfl _) ?_
  refine EvO.hcall rfl rfl ((hrc _ (hH.rows at3))) (put_T rfl _) ?_
  refine EvO.mv (.inl rfl) rfl (ev rfl) (put_T rfl _) ?_
  refine EvO.go rfl rfl rfl (put_T rfl _) ?_
  refine EvO.go rfl rfl rfl (put_T rfl _) ?_
  refine EvO.go rfl rfl rfl (put_T rfl _) ?_
  refine EvO.halloc hH rfl rfl (fun _ => by dsimp only [Fr.put,List.set_cons_succ,List.set_cons_zero] <;> rfl) (fun k8 st hk8 hH => ?_)
  try dsimp only [List.set_cons_zero,List.set_cons_succ,List.cons_append,List.nil_append,setMany,List.map_cons,List.map_nil,D.cells,Nat.reduceAdd,List.nil_append,insC,nodC,intC,nlC,Pg.d,Pg.cs] at hH
  refine EvO.hstoreA hH rfl (ev rfl) (ev rfl) (by first | rfl | exact (SlD.cells (by assumption)).1 | exact hH.ocells (by first | exact at0 | exact at1 | exact at2 | exact at3 | exact at4 | exact at5 | exact at6 | exact at7) | exact hH.dcells (by first | exact at0 | exact at1 | exact at2 | exact at3 | exact at4 | exact at5 | exact at6 | exact at7) | assumption) (by exact rfl) (by first | exact at0 | exact at1 | exact at2 | exact at3 | exact at4 | exact at5 | exact at6 | exact at7) (by exact rfl) (by first | exact .inl hF | exact .inr rfl | exact .inr (by assumption)) (fun st hH => ?_)
  try dsimp only [List.set_cons_zero,List.set_cons_succ,List.cons_append,List.nil_append,setMany,List.map_cons,List.map_nil,D.cells,Nat.reduceAdd,List.nil_append,insC,nodC,intC,nlC,Pg.d,Pg.cs] at hH
  refine EvO.mv (.inr rfl) rfl (ev rfl) (by dsimp only [Fr.put,List.set_cons_succ,List.set_cons_zero] <;> rfl) ?_
  refine EvO.mv (.inr rfl) rfl (ev rfl) (by dsimp only [Fr.put,List.set_cons_succ,List.set_cons_zero] <;> rfl) ?_
  refine EvO.nil ?_
  try subst hK
  try change EvC _ _ _ _ _ _
  have hprg : Ev pv 21 [.agg [cd,sd], .agg [(pgV R.code R.starts).cd,(pgV R.code R.starts).sd]] st (.bool true) st := by
   obtain ⟨⟨es,e1,e2⟩,_⟩ := (hH.ok 2 _ rfl).1
   obtain ⟨M,rfl,e3,e4⟩ := deep_all e2 hcv
   exact progsR_ev (P := ⟨cd,M,sd,R.starts⟩) (Q := pgV R.code R.starts) e1.rows (hH.rows at3) (fun i hi => (e4 i hi).r) hQ e3 rfl
  have hg4 : (!true) = false := rfl
  have hg9 : (R.e != R.e) = false := by simp
  try change EvC _ _ _ _ _ _
  repeat refine EvC.seq ?_
  try generalize hK : SeqQ _ _ _ _ = K
  refine EvC.reg ?_
  first | refine EvO.hloadS (m := 2) hH rfl (ev rfl) (by first | exact at0 | exact at1 | exact at2 | exact at3 | exact at4 | exact at5 | exact at6 | exact at7) (by dsimp only [List.drop_succ_cons,List.drop_zero,List.take_succ_cons,List.take_zero,insC,nodC,intC,nlC,Pg.d,Pg.cs] <;> rfl) rfl rfl (put_T rfl _) ?_ | refine EvO.rload rfl (ev rfl) (by assumption) rfl (put_T rfl _) ?_ | refine EvO.oload hH rfl (ev rfl) (by assumption) (by first | exact at0 | exact at1 | exact at2 | exact at3 | exact at4 | exact at5 | exact at6 | exact at7) (by assumption) rfl (put_T rfl _) ?_
  first | refine EvO.hloadS (m := 2) hH rfl (ev rfl) (by first | exact at0 | exact at1 | exact at2 | exact at3 | exact at4 | exact at5 | exact at6 | exact at7) (by dsimp only [List.drop_succ_cons,List.drop_zero,List.take_succ_cons,List.take_zero,insC,nodC,intC,nlC,Pg.d,Pg.cs] <;> rfl) rfl rfl (put_T rfl _) ?_ | refine EvO.rload rfl (ev rfl) (by assumption) rfl (put_T rfl _) ?_ | refine EvO.oload hH rfl (ev rfl) (by assumption) (by first | exact at0 | exact at1 | exact at2 | exact at3 | exact at4 | exact at5 | exact at6 | exact at7) (by assumption) rfl (put_T rfl _) ?_
  refine EvO.hcall rfl rfl hprg (put_T rfl _) ?_
  refine EvO.go rfl rfl rfl (put_T rfl _) ?_
  refine EvO.mv (.inl rfl) rfl (ev rfl) (put_T rfl _) ?_
  refine EvO.mv (.inl rfl) (wantD_is rfl rfl rfl hg4) (ev rfl) (put_T rfl _) ?_
  refine EvO.mv (.inl rfl) (wantD_is rfl rfl rfl hg4) (ev rfl) (put_T rfl _) ?_
  refine EvO.go (wantD_is rfl rfl rfl hg4) rfl rfl (put_T rfl _) ?_
  refine EvO.pickF rfl rfl hg4 (put_T rfl _) ?_
  refine EvO.mv (.inl rfl) rfl (ev rfl) (put_T rfl _) ?_
  refine EvO.mv (.inl rfl) (wantD_is rfl rfl rfl hg9) (ev rfl) (put_T rfl _) ?_
  refine EvO.mv (.inl rfl) (wantD_is rfl rfl rfl hg9) (ev rfl) (put_T rfl _) ?_
  refine EvO.go (wantD_is rfl rfl rfl hg9) rfl rfl (put_T rfl _) ?_
  refine EvO.pickF rfl rfl hg9 (put_T rfl _) ?_
  refine EvO.nil ?_
  try subst hK
  try change EvC _ _ _ _ _ _
  try change EvC _ _ _ _ _ _
  repeat refine EvC.seq ?_
  refine EvC.cond (v := false) (by first | assumption | (dsimp only [Fr.ev,Fr.get,nth,Go.V.look]; simp)) (fun h => by cases h) (fun _ => ?_)
  try change EvC _ _ _ _ _ _
  refine EvC.skip ?_
  try change EvC _ _ _ _ _ _
  obtain ⟨M,hM1,_,hH⟩ := to_spo hH (j := 2) rfl hcv
  dsimp only [List.set_cons_succ,List.set_cons_zero] at hH
  have hMl : M.length <= 400 := by have := congrArg List.length hM1; rw [List.length_map,List.length_map] at this; omega
  have hK := (hH.drop 1).erase 2
  try change EvC _ _ _ _ _ _
  repeat refine EvC.seq ?_
  try generalize hK : SeqQ _ _ _ _ = K
  refine EvC.reg ?_
  refine EvO.mv (.inr rfl) rfl (ev rfl) (by dsimp only [Fr.put,List.set_cons_succ,List.set_cons_zero] <;> rfl) ?_
  refine EvO.nil ?_
  try subst hK
  try change EvC _ _ _ _ _ _
  try change EvC _ _ _ _ _ _
  repeat refine EvC.seq ?_
  refine EvC.block ?_
  refine EvC.loop (fun mm fr st => ∃ (i : Nat),fr.clean = ⟨14, [y,ixF_ProgCompilesLaw fr 1,ixF_ProgCompilesLaw fr 2,w,ixF_ProgCompilesLaw fr 4, .ptr k5 0 0,ixF_ProgCompilesLaw fr 6,ixF_ProgCompilesLaw fr 7,ixF_ProgCompilesLaw fr 8,ixF_ProgCompilesLaw fr 9,ixF_ProgCompilesLaw fr 10, .int .i64 (i : Nat),ixF_ProgCompilesLaw fr 12,ixF_ProgCompilesLaw fr 13], []⟩ /\ Has s0.bs.length S st (.box k5 (.mem 0 false [cd,sd]) :: spoE ks cd M :: .lst w 1 ((l.map cpL).map nlC) :: []) /\ (i + mm = M.length)) (M.length) ?_ ?_
  ·exact ⟨0,rfl,hK,by omega⟩
  rintro mm fr st ⟨i,hfr,hH,hi⟩
  rw [hfr]
  clear hfr
  try generalize ixF_ProgCompilesLaw fr = ee
  clear fr
  try change EvC _ _ _ _ _ _
  have hrw := spo_rows hH (j := 1) rfl
  try change EvC _ _ _ _ _ _
  repeat refine EvC.seq ?_
  try generalize hK : SeqQ _ _ _ _ = K
  refine EvC.reg ?_
  refine EvO.mv (.inl rfl) rfl (ev rfl) (put_T rfl _) ?_
  refine EvO.pfield (fo := 0) (m := 0) (o := 0) rfl (ev rfl) rfl rfl rfl (put_T rfl _) ?_
  first | refine EvO.hload hH rfl (ev rfl) (by first | exact at0 | exact at1 | exact at2 | exact at3 | exact at4 | exact at5 | exact at6 | exact at7) rfl (put_T rfl _) ?_ | refine EvO.rload rfl (ev rfl) (by assumption) rfl (put_T rfl _) ?_ | refine EvO.oload hH rfl (ev rfl) (by assumption) (by first | exact at0 | exact at1 | exact at2 | exact at3 | exact at4 | exact at5 | exact at6 | exact at7) (by assumption) rfl (put_T rfl _) ?_
  refine EvO.rlen rfl (ev rfl) hrw rfl (put_T rfl _) ?_
  rw [List.length_map]
  refine EvO.go rfl rfl rfl (put_T rfl _) ?_
  refine EvO.nil ?_
  try subst hK
  try change EvC _ _ _ _ _ _
  by_cases hil : i < M.length
  ·obtain ⟨m,hm⟩ : ∃ m,M[i]? = some m := ⟨M[i]'hil,List.getElem?_eq_getElem _⟩
   have hmm := List.mem_of_getElem? hm
   have hrm : (M.map insC)[i]? = some (insC m) := by rw [List.getElem?_map,hm]; rfl
   try change EvC _ _ _ _ _ _
   repeat refine EvC.seq ?_
   refine EvC.cond (v := true) (by first | assumption | (dsimp only [Fr.ev,Fr.get,nth,Go.V.look]; rw [show decide (((i : Nat) : Int) < ((M.length : Nat) : Int)) = true from by rw [decide_eq_true_eq]; omega])) (fun _ => ?_) (fun h => by cases h)
   try change EvC _ _ _ _ _ _
   refine EvC.skip ?_
   try change EvC _ _ _ _ _ _
   try change EvC _ _ _ _ _ _
   repeat refine EvC.seq ?_
   refine EvC.block ?_
   try change EvC _ _ _ _ _ _
   repeat refine EvC.seq ?_
   try generalize hK : SeqQ _ _ _ _ = K
   refine EvC.reg ?_
   refine EvO.mv (.inr rfl) rfl (ev rfl) (by dsimp only [Fr.put,List.set_cons_succ,List.set_cons_zero] <;> rfl) ?_
   refine EvO.nil ?_
   try subst hK
   try change EvC _ _ _ _ _ _
   try change EvC _ _ _ _ _ _
   repeat refine EvC.seq ?_
   refine EvC.block ?_
   refine EvC.loop (fun mm fr st => ∃ (q : Nat),fr.clean = ⟨14, [y,ixF_ProgCompilesLaw fr 1,ixF_ProgCompilesLaw fr 2,w,ixF_ProgCompilesLaw fr 4, .ptr k5 0 0,ixF_ProgCompilesLaw fr 6,ixF_ProgCompilesLaw fr 7,ixF_ProgCompilesLaw fr 8,ixF_ProgCompilesLaw fr 9,ixF_ProgCompilesLaw fr 10, .int .i64 (i : Nat), .int .i64 (q : Nat),ixF_ProgCompilesLaw fr 13], []⟩ /\ Has s0.bs.length S st (.box k5 (.mem 0 false [cd,sd]) :: spoE ks cd M :: .lst w 1 ((l.map cpL).map nlC) :: []) /\ (q + mm = m.rs.length)) (m.rs.length) ?_ ?_
   ·exact ⟨0,rfl,hH,by omega⟩
   rintro mm fr st ⟨q,hfr,hH,hq⟩
   rw [hfr]
   clear hfr
   try generalize ixF_ProgCompilesLaw fr = ee
   clear fr
   try change EvC _ _ _ _ _ _
   obtain ⟨s,fs,g1,g2⟩ := spo_rd hH (j := 1) rfl hmm
   have hrw := spo_rows hH (j := 1) rfl
   have hrl : m.rs.length <= 1048576 := by
    obtain ⟨c,hc,he⟩ : ∃ c ∈ R.code,insP c = insP m := by
     have : insP m ∈ M.map insP := List.mem_map_of_mem hmm
     rw [hM1] at this
     obtain ⟨c,hc,he⟩ := List.mem_map.1 this
     exact ⟨c,hc,he⟩
    have h1 := (hcv c hc).2
    have h2 : c.rs = m.rs := by unfold insP at he; simp only [Prod.mk.injEq] at he; exact he.2.2.2
    rw [<- h2]; exact h1
   try change EvC _ _ _ _ _ _
   repeat refine EvC.seq ?_
   try generalize hK : SeqQ _ _ _ _ = K
   refine EvC.reg ?_
   refine EvO.mv (.inl rfl) rfl (ev rfl) (put_T rfl _) ?_
   refine EvO.pfield (fo := 0) (m := 0) (o := 0) rfl (ev rfl) rfl rfl rfl (put_T rfl _) ?_
   first | refine EvO.hload hH rfl (ev rfl) (by first | exact at0 | exact at1 | exact at2 | exact at3 | exact at4 | exact at5 | exact at6 | exact at7) rfl (put_T rfl _) ?_ | refine EvO.rload rfl (ev rfl) (by assumption) rfl (put_T rfl _) ?_ | refine EvO.oload hH rfl (ev rfl) (by assumption) (by first | exact at0 | exact at1 | exact at2 | exact at3 | exact at4 | exact at5 | exact at6 | exact at7) (by assumption) rfl (put_T rfl _) ?_
   refine EvO.mv (.inl rfl) rfl (ev rfl) (put_T rfl _) ?_
   refine EvO.ridx rfl (ev rfl) (ev rfl) hrw rfl rfl hrm (fun _ => (put_T rfl _)) (fun p67 hp67 => ?_)
   refine EvO.rfieldN (fo := 3) (m := 0) rfl (ev rfl) hp67 rfl rfl (fun _ => (put_T rfl _)) (fun p68 hp68 => ?_)
   first | refine EvO.hload hH rfl (ev rfl) (by first | exact at0 | exact at1 | exact at2 | exact at3 | exact at4 | exact at5 | exact at6 | exact at7) rfl (put_T rfl _) ?_ | refine EvO.rload rfl (ev rfl) (by assumption) rfl (put_T rfl _) ?_ | refine EvO.oload hH rfl (ev rfl) (by assumption) (by first | exact at0 | exact at1 | exact at2 | exact at3 | exact at4 | exact at5 | exact at6 | exact at7) (by assumption) rfl (put_T rfl _) ?_
   refine EvO.rlen rfl (ev rfl) g1 rfl (put_T rfl _) ?_
   rw [g2]
   refine EvO.go rfl rfl rfl (put_T rfl _) ?_
   refine EvO.nil ?_
   try subst hK
   try change EvC _ _ _ _ _ _
   by_cases hql : q < m.rs.length
   ·obtain ⟨kb,vb,ob,hwin,hmb,st',hwr,hH'⟩ := spo_set (cs := [.int .i32 (-1), .int .i32 0]) hH (j := 1) rfl hmm hql rfl (.inr rfl)
    try change EvC _ _ _ _ _ _
    repeat refine EvC.seq ?_
    refine EvC.cond (v := true) (by first | assumption | (dsimp only [Fr.ev,Fr.get,nth,Go.V.look]; rw [show decide (((q : Nat) : Int) < ((m.rs.length : Nat) : Int)) = true from by rw [decide_eq_true_eq]; omega])) (fun _ => ?_) (fun h => by cases h)
    try change EvC _ _ _ _ _ _
    refine EvC.skip ?_
    try change EvC _ _ _ _ _ _
    try change EvC _ _ _ _ _ _
    repeat refine EvC.seq ?_
    refine EvC.block ?_
    try change EvC _ _ _ _ _ _
    repeat refine EvC.seq ?_
    try generalize hK : SeqQ _ _ _ _ = K
    refine EvC.reg ?_
    refine EvO.pfield (fo := 0) (m := 0) (o := 0) rfl (ev rfl) rfl rfl rfl (put_T rfl _) ?_
    first | refine EvO.hload hH rfl (ev rfl) (by first | exact at0 | exact at1 | exact at2 | exact at3 | exact at4 | exact at5 | exact at6 | exact at7) rfl (put_T rfl _) ?_ | refine EvO.rload rfl (ev rfl) (by assumption) rfl (put_T rfl _) ?_ | refine EvO.oload hH rfl (ev rfl) (by assumption) (by first | exact at0 | exact at1 | exact at2 | exact at3 | exact at4 | exact at5 | exact at6 | exact at7) (by assumption) rfl (put_T rfl _) ?_
    refine EvO.mv (.inl rfl) rfl (ev rfl) (put_T rfl _) ?_
    refine EvO.ridx rfl (ev rfl) (ev rfl) hrw rfl rfl hrm (fun _ => (put_T rfl _)) (fun p77 hp77 => ?_)
    refine EvO.rfieldN (fo := 3) (m := 0) rfl (ev rfl) hp77 rfl rfl (fun _ => (put_T rfl _)) (fun p78 hp78 => ?_)
    first | refine EvO.hload hH rfl (ev rfl) (by first | exact at0 | exact at1 | exact at2 | exact at3 | exact at4 | exact at5 | exact at6 | exact at7) rfl (put_T rfl _) ?_ | refine EvO.rload rfl (ev rfl) (by assumption) rfl (put_T rfl _) ?_ | refine EvO.oload hH rfl (ev rfl) (by assumption) (by first | exact at0 | exact at1 | exact at2 | exact at3 | exact at4 | exact at5 | exact at6 | exact at7) (by assumption) rfl (put_T rfl _) ?_
    refine EvO.mv (.inl rfl) rfl (ev rfl) (put_T rfl _) ?_
    refine EvO.go (d := .agg [.int .i32 (-1), .int .i32 0]) (st1 := _) rfl rfl rfl (put_T rfl _) ?_
    refine EvO.widx rfl (by exact hwin) (ev rfl) rfl rfl hmb hql (put_T rfl _) ?_
    refine EvO.wstore rfl (ev rfl) (ev rfl) rfl rfl hwr ?_
    have hH := hH'
    refine EvO.nil ?_
    try subst hK
    try change EvC _ _ _ _ _ _
    try change EvC _ _ _ _ _ _
    repeat refine EvC.seq ?_
    try generalize hK : SeqQ _ _ _ _ = K
    refine EvC.reg ?_
    refine EvO.mv (.inl rfl) rfl (ev rfl) (put_T rfl _) ?_
    refine EvO.addZ (z := ((q + 1 : Nat) : Int)) rfl (ev rfl) (ev rfl) (by (try simp only [List.length_reverse,List.length_cons,List.length_nil,List.length_append,List.length_map,List.length_set]); first | (rw [wrap_i64 (by omega) (by omega)] <;> omega) | (rw [wrap_i32 (by omega) (by omega)] <;> omega)) (put_T rfl _) ?_
    refine EvO.mv (.inr rfl) rfl (ev rfl) (by dsimp only [Fr.put,List.set_cons_succ,List.set_cons_zero] <;> rfl) ?_
    refine EvO.nil ?_
    try subst hK
    try change EvC _ _ _ _ _ _
    exact ⟨mm - 1,by omega,⟨q + 1,rfl,hH,by omega⟩⟩
   ·try change EvC _ _ _ _ _ _
    repeat refine EvC.seq ?_
    refine EvC.cond (v := false) (by first | assumption | (dsimp only [Fr.ev,Fr.get,nth,Go.V.look]; rw [show decide (((q : Nat) : Int) < ((m.rs.length : Nat) : Int)) = false from by rw [decide_eq_false_iff_not]; omega])) (fun h => by cases h) (fun _ => ?_)
    try change EvC _ _ _ _ _ _
    try change EvC _ _ _ _ _ _
    refine EvC.exit ?_
    try change EvC _ _ _ _ _ _
    try change EvC _ _ _ _ _ _
    repeat refine EvC.seq ?_
    try generalize hK : SeqQ _ _ _ _ = K
    refine EvC.reg ?_
    refine EvO.mv (.inl rfl) rfl (ev rfl) (put_T rfl _) ?_
    refine EvO.addZ (z := ((i + 1 : Nat) : Int)) rfl (ev rfl) (ev rfl) (by (try simp only [List.length_reverse,List.length_cons,List.length_nil,List.length_append,List.length_map,List.length_set]); first | (rw [wrap_i64 (by omega) (by omega)] <;> omega) | (rw [wrap_i32 (by omega) (by omega)] <;> omega)) (put_T rfl _) ?_
    refine EvO.mv (.inr rfl) rfl (ev rfl) (by dsimp only [Fr.put,List.set_cons_succ,List.set_cons_zero] <;> rfl) ?_
    refine EvO.nil ?_
    try subst hK
    try change EvC _ _ _ _ _ _
    exact ⟨M.length - (i + 1),by omega,⟨i + 1,rfl,hH,by omega⟩⟩
  ·try change EvC _ _ _ _ _ _
   repeat refine EvC.seq ?_
   refine EvC.cond (v := false) (by first | assumption | (dsimp only [Fr.ev,Fr.get,nth,Go.V.look]; rw [show decide (((i : Nat) : Int) < ((M.length : Nat) : Int)) = false from by rw [decide_eq_false_iff_not]; omega])) (fun h => by cases h) (fun _ => ?_)
   try change EvC _ _ _ _ _ _
   try change EvC _ _ _ _ _ _
   refine EvC.exit ?_
   try change EvC _ _ _ _ _ _
   try change EvC _ _ _ _ _ _
   repeat refine EvC.seq ?_
   try generalize hK : SeqQ _ _ _ _ = K
   refine EvC.reg ?_
   refine EvO.mv (.inr rfl) rfl (ev rfl) (by dsimp only [Fr.put,List.set_cons_succ,List.set_cons_zero] <;> rfl) ?_
   refine EvO.nil ?_
   try subst hK
   try change EvC _ _ _ _ _ _
   try change EvC _ _ _ _ _ _
   repeat refine EvC.seq ?_
   refine EvC.block ?_
   refine EvC.loop (fun mm fr st => ∃ (i : Nat),fr.clean = ⟨14, [y,ixF_ProgCompilesLaw fr 1,ixF_ProgCompilesLaw fr 2,w,ixF_ProgCompilesLaw fr 4,ixF_ProgCompilesLaw fr 5,ixF_ProgCompilesLaw fr 6,ixF_ProgCompilesLaw fr 7,ixF_ProgCompilesLaw fr 8,ixF_ProgCompilesLaw fr 9,ixF_ProgCompilesLaw fr 10,ixF_ProgCompilesLaw fr 11,ixF_ProgCompilesLaw fr 12, .int .i64 (i : Nat)], []⟩ /\ Has s0.bs.length S st (.lst w 1 ((l.map cpL).map nlC) :: []) /\ (i + mm = l.length)) (l.length) ?_ ?_
   ·exact ⟨0,rfl,hH.drop 2,by omega⟩
   rintro mm fr st ⟨i,hfr,hH,hi⟩
   rw [hfr]
   clear hfr
   try generalize ixF_ProgCompilesLaw fr = ee
   clear fr
   try change EvC _ _ _ _ _ _
   try change EvC _ _ _ _ _ _
   repeat refine EvC.seq ?_
   try generalize hK : SeqQ _ _ _ _ = K
   refine EvC.reg ?_
   refine EvO.mv (.inl rfl) rfl (ev rfl) (put_T rfl _) ?_
   refine EvO.mv (.inl rfl) rfl (ev rfl) (put_T rfl _) ?_
   first | refine EvO.rlen rfl (ev rfl) (Arg.rows (by assumption) hH) rfl (put_T rfl _) ?_ | refine EvO.rlen rfl (ev rfl) (hH.rows (by first | exact at0 | exact at1 | exact at2 | exact at3 | exact at4 | exact at5 | exact at6 | exact at7)) rfl (put_T rfl _) ?_ | refine EvO.slen rfl rfl rfl (put_T rfl _) ?_ | refine EvO.go rfl rfl rfl (put_T rfl _) ?_
   try simp only [List.length_map,List.length_append,List.length_cons,List.length_nil,List.length_set,List.length_replicate,List.length_reverse]
   refine EvO.go rfl rfl rfl (put_T rfl _) ?_
   refine EvO.nil ?_
   try subst hK
   try change EvC _ _ _ _ _ _
   try change EvC _ _ _ _ _ _
   repeat refine EvC.seq ?_
   refine EvC.cond (by first | rfl | assumption) (fun h2 => ?_) (fun h2 => ?_) <;> try simp only [decide_eq_true_eq,decide_eq_false_iff_not,beq_iff_eq,beq_eq_false_iff_ne,bne_iff_ne,bne_eq_false_iff_eq,ne_eq,Bool.not_eq_true',Bool.not_eq_false',Bool.not_eq_true,Bool.not_eq_false] at h2
   ·refine EvC.skip ?_
    try change EvC _ _ _ _ _ _
    obtain ⟨q,hq⟩ : ∃ q,l[i]? = some q := ⟨l[i]'(by omega),List.getElem?_eq_getElem _⟩
    have hr1 := nl_get hq
    have hqo := hro q (List.mem_of_getElem? hq)
    have hr2 : ((l.map cpL).map nlC)[i]? = some [nlD (q.l.map cpN)] := by rw [List.getElem?_map,List.getElem?_map,hq]; rfl
    have hnd := fun st => nodesCp_ev (s0 := st) hqo (y := nlD (q.l.map cpN)) (cpL_v hqo).1.c
    try change EvC _ _ _ _ _ _
    repeat refine EvC.seq ?_
    refine EvC.block ?_
    try change EvC _ _ _ _ _ _
    repeat refine EvC.seq ?_
    try generalize hK : SeqQ _ _ _ _ = K
    refine EvC.reg ?_
    refine EvO.mv (.inl rfl) rfl (ev rfl) (put_T rfl _) ?_
    refine EvO.mv (.inl rfl) rfl (ev rfl) (put_T rfl _) ?_
    first | refine EvO.ridx rfl (ev rfl) (ev rfl) (Arg.rows (by assumption) hH) rfl rfl (by assumption) (fun _ => (put_T rfl _)) (fun p91 hp91 => ?_) | refine EvO.oidx hH rfl (ev rfl) (ev rfl) (by first | exact at0 | exact at1 | exact at2 | exact at3 | exact at4 | exact at5 | exact at6 | exact at7) rfl rfl (by first | exact lt_get (by assumption) | omega | (simp only [List.length_map,List.length_append,List.length_cons,List.length_nil,List.length_set,List.length_replicate] <;> omega)) (fun _ => (put_T rfl _)) (fun p91 hp91 => ?_)
    first | refine EvO.rload rfl (ev rfl) (by assumption) rfl (put_T rfl _) ?_ | refine EvO.oload hH rfl (ev rfl) (by assumption) (by first | exact at0 | exact at1 | exact at2 | exact at3 | exact at4 | exact at5 | exact at6 | exact at7) (by assumption) rfl (put_T rfl _) ?_ | refine EvO.hload hH rfl (ev rfl) (by first | exact at0 | exact at1 | exact at2 | exact at3 | exact at4 | exact at5 | exact at6 | exact at7) rfl (put_T rfl _) ?_
    refine EvO.mv (.inl rfl) rfl (ev rfl) (put_T rfl _) ?_
    refine EvO.mv (.inl rfl) rfl (ev rfl) (put_T rfl _) ?_
    first | refine EvO.ridx rfl (ev rfl) (ev rfl) (Arg.rows (by assumption) hH) rfl rfl (by assumption) (fun _ => (put_T rfl _)) (fun p95 hp95 => ?_) | refine EvO.oidx hH rfl (ev rfl) (ev rfl) (by first | exact at0 | exact at1 | exact at2 | exact at3 | exact at4 | exact at5 | exact at6 | exact at7) rfl rfl (by first | exact lt_get (by assumption) | omega | (simp only [List.length_map,List.length_append,List.length_cons,List.length_nil,List.length_set,List.length_replicate] <;> omega)) (fun _ => (put_T rfl _)) (fun p95 hp95 => ?_)
    first | refine EvO.rload rfl (ev rfl) (by assumption) rfl (put_T rfl _) ?_ | refine EvO.oload hH rfl (ev rfl) (by assumption) (by first | exact at0 | exact at1 | exact at2 | exact at3 | exact at4 | exact at5 | exact at6 | exact at7) (by assumption) rfl (put_T rfl _) ?_ | refine EvO.hload hH rfl (ev rfl) (by first | exact at0 | exact at1 | exact at2 | exact at3 | exact at4 | exact at5 | exact at6 | exact at7) rfl (put_T rfl _) ?_
    refine EvO.hcall rfl rfl (hnd _) (put_T rfl _) ?_
    refine EvO.go rfl rfl rfl (put_T rfl _) ?_
    refine EvO.nil ?_
    try subst hK
    try change EvC _ _ _ _ _ _
    try change EvC _ _ _ _ _ _
    repeat refine EvC.seq ?_
    refine EvC.cond (v := false) (by first | assumption | (dsimp only [Fr.ev,Fr.get,nth,Go.V.look]; rfl)) (fun h => by cases h) (fun _ => ?_)
    try change EvC _ _ _ _ _ _
    refine EvC.skip ?_
    try change EvC _ _ _ _ _ _
    try change EvC _ _ _ _ _ _
    repeat refine EvC.seq ?_
    try generalize hK : SeqQ _ _ _ _ = K
    refine EvC.reg ?_
    refine EvO.mv (.inl rfl) rfl (ev rfl) (put_T rfl _) ?_
    refine EvO.addZ (z := ((i + 1 : Nat) : Int)) rfl (ev rfl) (ev rfl) (by (try simp only [List.length_reverse,List.length_cons,List.length_nil,List.length_append,List.length_map,List.length_set]); first | (rw [wrap_i64 (by omega) (by omega)] <;> omega) | (rw [wrap_i32 (by omega) (by omega)] <;> omega)) (put_T rfl _) ?_
    refine EvO.mv (.inr rfl) rfl (ev rfl) (by dsimp only [Fr.put,List.set_cons_succ,List.set_cons_zero] <;> rfl) ?_
    refine EvO.nil ?_
    try subst hK
    try change EvC _ _ _ _ _ _
    exact ⟨mm - 1,by omega,⟨i + 1,rfl,hH,by omega⟩⟩
   ·try change EvC _ _ _ _ _ _
    refine EvC.exit ?_
    try change EvC _ _ _ _ _ _
    try change EvC _ _ _ _ _ _
    repeat refine EvC.seq ?_
    try generalize hK : SeqQ _ _ _ _ = K
    refine EvC.reg ?_
    refine EvO.hcall rfl rfl (Ev.prim rfl rfl) (put_T rfl _) ?_
    refine EvO.mv (.inr rfl) rfl (ev rfl) (by dsimp only [Fr.put,List.set_cons_succ,List.set_cons_zero] <;> rfl) ?_
    refine EvO.nil ?_
    try subst hK
    try change EvC _ _ _ _ _ _
    refine EvC.ret ⟨fun i h => (by cases h),_,rfl,leave_ro (by simp) hSb hH (rfl)⟩
theorem own : ownKnob Try.prog.godebug = none := by kernel_rfl
theorem laidOut : laidOutB Try.prog = true := by kernel_rfl
theorem lifted (os : Os) (started : os.Started) (H : Type) (enc : TypeId × Value -> H) (F : Stop.Interp) :
  ReturnsInHanded {} Try.checked os 4 .any ((Rows.OpenSpec.upto Rows.progCompilesSpec).pre6 enc Try.prog Try.f4 Rows.progCompilesUptoRow.domain false) (((Rows.OpenSpec.upto Rows.progCompilesSpec).at F).post enc Try.prog Try.f4 false true false false) := by
 refine returnsInHanded_of_cond (C := Try.checked) (s := Rows.OpenSpec.upto Rows.progCompilesSpec) (k := Rows.uptoSmall) rfl own started (by kernel_rfl) Try.func4
  (OpenSpec.witness (enc := enc) (C := Try.checked) (s := Rows.OpenSpec.upto Rows.progCompilesSpec) (k := Rows.uptoSmall) rfl false ⟨#[], #[.slice none 0 0], []⟩ 8 (by kernel_rfl) (by kernel_rfl) (by kernel_rfl)
   (x := ([.nil], [], [])) (by kernel_rfl) rfl (by kernel_rfl)) ?_
 intro W base args ds gs before hval hW _ hk _
 have hW' := hW
 obtain ⟨p,q,hA0,hV,rfl,hfz,hnd⟩ := hW
 have hA : DataW.TrodAll enc Try.prog W 0 (fun _ => true) true Try.f4.params.toList args.toList ds p := hA0
 rw [Try.params4] at hA hval
 obtain ⟨v0,vs0,d0,ds0,p0,q0,hargs,rfl,rfl,h0,r0⟩ := trodAll_cons hA
 obtain ⟨rfl,rfl,rfl⟩ := trodAll_nil r0
 obtain rfl : args = #[v0] := by cases args; simp_all
 obtain ⟨rfl,rfl⟩ := trodVars_none hV
 simp only [Rows.uptoSmall,List.append_nil,List.nil_append,List.singleton_append,List.cons_append,decide_eq_true_eq,Rows.uptoBulkAll] at hk
 have i0 := trod_ir h0 (n := 12) (by kernel_rfl) (hval 0 23 v0 rfl rfl)
 have k0 := h0
 have lt0 : ∀ x ∈ p0,x.block < W.heap.size := by obtain ⟨m,hm⟩ := k0; exact DataW.trod_lt m _ _ _ hm
 obtain ⟨y0,b0,hb0,sl0,ok0⟩ := arg_nodess (Rd.of h0)
 have hlaw : Ev pv 4 [dval d0] ⟨[],0,0⟩ (.bool true) ⟨[],0,0⟩ := by
  rw [hb0]
  exact law y0 b0 sl0 (ok0 (by omega))
 have hir : ∀ (i : Nat) c v, [dval d0][i]? = some c -> [v0][i]? = some v -> IR W (fun b => b < W.heap.size) c v := by
  intro i c v hc hv
  match i,hc,hv with
  | 0,hc,hv => cases hc; cases hv; exact i0
 clear hA0
 refine (law_calls view hlaw (us := [v0]) rfl hir).mono fun e W' ⟨he,bel⟩ => ?_
 subst he
 exact ⟨_,rfl,_,_,_, [],_, [],hW',trodAll_mk1 (shut_bool Try.underlying4 _),(trodAll_cons_mk (Below.trod laidOut (by kernel_rfl) (of_decide_eq_true (by kernel_rfl)) k0 bel lt0) trodAll_mk0),rfl,bel.frame _,fun h => by cases h⟩
theorem fact1 : (Rows.progCompilesUptoRow.inPlace == Try.checked.prog.inPlace 4) = true := by kernel_rfl
theorem fact2 : (Rows.progCompilesUptoRow.unfollowed == Try.checked.prog.unfollowed 4) = true := by kernel_rfl
theorem fact3 : (Rows.progCompilesUptoRow.recurses == Try.checked.prog.recurses 4) = true := by kernel_rfl
theorem fact4 : (Rows.progCompilesUptoRow.named == Try.checked.prog.varsNamed 4) = true := by kernel_rfl
theorem and_t {a b : Bool} (h1 : a = true) (h2 : b = true) : (a && b) = true := by rw [h1,h2]; rfl
theorem facts : joinedFacts Try.checked.prog 4 Try.f4 (Rows.OpenSpec.upto Rows.progCompilesSpec).bare Rows.progCompilesUptoRow = true := by
 unfold joinedFacts
 exact and_t (and_t (and_t (and_t (and_t (and_t (and_t (and_t (and_t (and_t (and_t (and_t (and_t (and_t (and_t (and_t (and_t (and_t (and_t (and_t (and_t (and_t (and_t (by kernel_rfl) fact1) fact2) fact3) fact4) (by kernel_rfl)) (by kernel_rfl)) (by kernel_rfl)) (by kernel_rfl)) (by kernel_rfl)) (by kernel_rfl)) (by kernel_rfl)) (by kernel_rfl)) (by kernel_rfl)) (by kernel_rfl)) (by kernel_rfl)) (by kernel_rfl)) (by kernel_rfl)) (by kernel_rfl)) (by kernel_rfl)) (by kernel_rfl)) (by kernel_rfl)) (by kernel_rfl)) (by kernel_rfl)
theorem proved : Rows.ProgCompilesUptoSaid :=
 OpenClaim.holds_of_cond 4 Try.f4 rfl rfl rfl rfl rfl rfl rfl ⟨rfl,rfl,rfl,rfl,rfl⟩ rfl rfl rfl rfl rfl (by kernel_rfl) Try.func4 facts
  (of_decide_eq_true (by kernel_rfl)) (by unfold Func.isWrapper; first | (rw [if_pos (by decide +kernel)]; kernel_rfl) | (rw [if_neg (by decide +kernel)]; exact ⟨rfl,rfl⟩))
  (fun os started H enc _ F => lifted os started H enc F)
end Go.Proofs.Ytnleclohocdkaaa.progCompiles
#print axioms Go.Proofs.Ytnleclohocdkaaa.progCompiles.proved
