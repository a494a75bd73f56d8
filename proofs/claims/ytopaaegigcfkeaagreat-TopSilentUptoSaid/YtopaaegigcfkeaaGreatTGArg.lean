/- own -/
import Derived.Test.YtopaaegigcfkeaaGreatTGM3
import Derived.Test.YtopaaegigcfkeaaGreatRows
import Derived.Test.YtopaaegigcfkeaaGreatTPx
import Derived.Test.YtopaaegigcfkeaaGreatTGHr
import Derived.Test.YtopaaegigcfkeaaGreatTGTm
set_option maxRecDepth 100000
set_option linter.unusedSimpArgs false
set_option linter.unusedVariables false
set_option maxHeartbeats 4000000
namespace Go.Proofs.YtopaaegigcfkeaaGreat
open Go.V Go Go.RowKit
theorem bulk_one {H : Type} (d : DataW H) : 1 <= Rows.uptoBulk d := by
 cases d with
 | lit l => cases l <;> simp [Rows.uptoBulk]
 | _ => simp [Rows.uptoBulk]
theorem bulk_len {H : Type} (l : List (DataW H)) : l.length <= Rows.uptoBulkAll l := by
 induction l with
 | nil => simp [Rows.uptoBulkAll]
 | cons x r ih => have := bulk_one x; simp only [Rows.uptoBulkAll,List.length_cons]; omega
theorem bulk_all {H : Type} {l : List (DataW H)} {x : DataW H} (h : x ∈ l) : Rows.uptoBulk x <= Rows.uptoBulkAll l := by
 induction l with
 | nil => cases h
 | cons y l ih =>
  simp only [Rows.uptoBulkAll]
  rcases List.mem_cons.1 h with rfl | h
  ·omega
  ·have := ih h; omega
structure Pat where
 nm : List UInt8
 tx : List UInt8
def patC (p : Pat) : List D := [.str p.nm, .str p.tx]
structure Stp where
 kind : Int
 n : Int
 nm : List UInt8
 to : List UInt8
 y : D
 b : List UInt8
 x : D
 l : List Pat
 c : List UInt8
def stpC (s : Stp) : List D := [.int .i64 s.kind, .int .i64 s.n, .str s.nm, .str s.to,s.y,s.x, .str s.c]
structure Stp.ok (s : Stp) : Prop where
 hy : SlD s.y 1 (V.byteCells s.b)
 lb : s.b.length <= 1048576
 hx : SlD s.x 2 (s.l.map patC)
 ll : s.l.length <= 1048576
 ln : s.nm.length <= 1048576
 lt : s.to.length <= 1048576
variable {H : Type} {enc : TypeId × Value -> H} {w : World} {spare : Nat -> Bool} {held : Bool} {d : DataW H}
theorem argt_byl (h : Rd enc Tryz.prog w spare held 26 d) : ∃ (y : D) (b : List UInt8),dcs d = [y] /\ SlD y 1 (V.byteCells b) /\ (Rows.uptoBulk d <= 1048576 -> b.length <= 1048576) := by
 rcases h.slice Tryz.underlying26 with rfl | ⟨elems,rest,rfl,he⟩
 ·exact ⟨_, [],rfl, .inl ⟨rfl,rfl⟩,fun _ => by simp⟩
 ·obtain ⟨l,h1,h2,_⟩ := sl_of (s := 1) (f := fun c : UInt8 => [.int .u8 (c.toNat : Nat)]) (Q := fun _ _ => True) (rest := rest) fun x hx => by
   obtain ⟨n,rfl,hw⟩ := (he x hx).int Tryz.underlying5
   obtain ⟨c,rfl⟩ := wf_u8 hw
   exact ⟨c,rfl,rfl,rfl,trivial⟩
  refine ⟨_,l,rfl,h1,fun hb => ?_⟩
  have := bulk_len elems
  simp only [Rows.uptoBulk] at hb
  omega
theorem argt_pat (h : Rd enc Tryz.prog w spare held 104 d) : ∃ p : Pat,(dval d).cells? = some (dval d).cells /\ (dval d).cells = patC p := by
 obtain ⟨parts,rfl,hp⟩ := h.struct Tryz.underlying104
 cases hp with
 | cons a hp => cases hp with
  | cons b hp => cases hp with
   | nil =>
    obtain ⟨x,rfl⟩ := a.string Tryz.underlying9
    obtain ⟨y,rfl⟩ := b.string Tryz.underlying9
    exact ⟨⟨x,y⟩,rfl,rfl⟩
theorem argt_set (h : Rd enc Tryz.prog w spare held 29 d) : ∃ (x : D) (l : List Pat) (c : List UInt8),dcs d = [x, .str c] /\ SlD x 2 (l.map patC) /\ (Rows.uptoBulk d <= 1048576 -> l.length <= 1048576) := by
 obtain ⟨parts,rfl,hp⟩ := h.struct Tryz.underlying29
 cases hp with
 | cons a2 hp => cases hp with
  | cons b2 hp => cases hp with
   | nil =>
    obtain ⟨y,rfl⟩ := b2.string Tryz.underlying9
    rcases a2.slice Tryz.underlying27 with rfl | ⟨elems,rest,rfl,he⟩
    ·exact ⟨.nul, [],y,rfl, .inl ⟨rfl,rfl⟩,fun _ => by simp⟩
    ·obtain ⟨l,h1,h2,h3⟩ := sl_of (s := 2) (f := patC) (Q := fun _ _ => True) (rest := rest) fun x hx => by
      obtain ⟨p,g1,g2⟩ := argt_pat (he x hx)
      exact ⟨p,g1,g2,rfl,trivial⟩
     refine ⟨_,l,y,rfl,h1,fun hb => ?_⟩
     have := bulk_len elems
     simp only [Rows.uptoBulk,Rows.uptoBulkAll] at hb
     omega
theorem arg_step (h : Rd enc Tryz.prog w spare held 31 d) : ∃ s : Stp,(dval d).cells? = some (dval d).cells /\ (dval d).cells = stpC s /\ (Rows.uptoBulk d <= 1048576 -> s.ok) := by
 obtain ⟨parts,rfl,hp⟩ := h.struct Tryz.underlying31
 cases hp with
 | cons a1 hp => cases hp with
  | cons a2 hp => cases hp with
   | cons a3 hp => cases hp with
    | cons a4 hp => cases hp with
     | cons a5 hp => cases hp with
      | cons a6 hp => cases hp with
       | nil =>
        obtain ⟨k,rfl,_⟩ := a1.int Tryz.underlying3
        obtain ⟨n,rfl,_⟩ := a2.int Tryz.underlying3
        obtain ⟨nm,rfl⟩ := a3.string Tryz.underlying9
        obtain ⟨to,rfl⟩ := a4.string Tryz.underlying9
        obtain ⟨y,b,e5,hy,lb⟩ := argt_byl a5
        obtain ⟨x,l,c,e6,hx,ll⟩ := argt_set a6
        refine ⟨⟨k,n,nm,to,y,b,x,l,c⟩,rfl,?_,fun hb => ?_⟩
        ·show dparts _ = _
         simp only [dparts,e5,e6]
         rfl
        ·simp only [Rows.uptoBulk,Rows.uptoBulkAll] at hb
         exact ⟨hy,lb (by omega),hx,ll (by omega),by show nm.length <= _; omega,by show to.length <= _; omega⟩
theorem arg_steps (h : Rd enc Tryz.prog w spare held 22 d) : ∃ (y : D) (b : List Stp),dval d = y /\ SlD y 7 (b.map stpC) /\ (Rows.uptoBulk d <= 1048576 -> b.length <= 1048576 /\ ∀ s ∈ b,s.ok) := by
 rcases h.slice Tryz.underlying22 with rfl | ⟨elems,rest,rfl,he⟩
 ·exact ⟨_, [],rfl, .inl ⟨rfl,rfl⟩,fun _ => ⟨by simp,fun s hs => by cases hs⟩⟩
 ·obtain ⟨l,h1,h2,h3⟩ := sl_of (s := 7) (f := stpC) (Q := fun (s : Stp) x => Rows.uptoBulk x <= 1048576 -> s.ok) (rest := rest) fun x hx => by
   obtain ⟨s,g1,g2,g3⟩ := arg_step (he x hx)
   exact ⟨s,g1,g2,rfl,g3⟩
  refine ⟨_,l,rfl,h1,fun hb => ?_⟩
  have := bulk_len elems
  simp only [Rows.uptoBulk] at hb
  refine ⟨by omega,fun s hs => ?_⟩
  obtain ⟨x,hx,hq⟩ := h3 s hs
  have := bulk_all hx
  exact hq (by omega)
end Go.Proofs.YtopaaegigcfkeaaGreat
namespace Go.Proofs.YtopaaegigcfkeaaGreat
open Go.V Go
def ixF_To (fr : Go.V.Fr) (k : Nat) : Go.V.D := Go.V.nth .junk fr.loc k
theorem frzSet {y : D} {s : Nat} {es : List (List D)} (h : SlD y s es) (c : List UInt8) (st : St) (n : Nat) : ∃ z,freezeD st n false 16 (.agg [y, .str c]) = some (.agg [z, .str c]) /\ SlD z s es := by
 obtain ⟨z,h1,h2⟩ := h.freeze st n 14
 refine ⟨z,?_,h2⟩
 show (mapO (freezeD st n false 15) [y, .str c]).map D.agg = _
 have h3 : freezeD st n false 15 (.str c) = some (.str c) := rfl
 simp only [mapO,h1,h3,Option.map_some]
theorem sfreeze {y : D} {s : Nat} {es : List (List D)} (h : SlD y s es) (st : St) (N n : Nat) : ∃ z,freezeD st N false (n + 1) y = some z /\ SlD z s es /\ plainC z = true := by
 rcases h with ⟨rfl,rfl⟩ | ⟨ds,rfl,rfl,h⟩
 ·exact ⟨.sl [],rfl, .inr ⟨[],rfl,rfl,fun d hd => by cases hd⟩,rfl⟩
 ·exact ⟨.sl ds,rfl, .inr ⟨ds,rfl,rfl,h⟩,rfl⟩
theorem frzStp {k n0 : Int} {nm to c : List UInt8} {y x : D} {es es' : List (List D)} {s s' : Nat} (hy : SlD y s es) (hx : SlD x s' es') (st : St) (n : Nat) : ∃ y' x',freezeD st n false 16 (.agg [.int .i64 k, .int .i64 n0, .str nm, .str to,y,x, .str c]) = some (.agg [.int .i64 k, .int .i64 n0, .str nm, .str to,y',x', .str c]) /\ SlD y' s es /\ SlD x' s' es' /\ plainC y' = true /\ plainC x' = true := by
 obtain ⟨y',h1,h2,h5⟩ := sfreeze hy st n 14
 obtain ⟨x',h3,h4,h6⟩ := sfreeze hx st n 14
 refine ⟨y',x',?_,h2,h4,h5,h6⟩
 show (mapO (freezeD st n false 15) [.int .i64 k, .int .i64 n0, .str nm, .str to,y,x, .str c]).map D.agg = _
 have e1 : ∀ z,freezeD st n false 15 (.int .i64 z) = some (.int .i64 z) := fun _ => rfl
 have e2 : ∀ z,freezeD st n false 15 (.str z) = some (.str z) := fun _ => rfl
 simp only [mapO,h1,h3,e1,e2,Option.map_some]
def Stp.pl (s : Stp) : Prop := plainC s.y = true /\ plainC s.x = true
theorem stp_len (l : List Stp) : ∀ e ∈ l.map stpC,e.length = 7 := by
 intro e he; obtain ⟨r,_,rfl⟩ := List.mem_map.1 he; rfl
theorem stp_plain {l : List Stp} (h : ∀ s ∈ l,s.pl) : ∀ e ∈ l.map stpC, ∀ d ∈ e,plainC d = true := by
 intro e he d hd
 obtain ⟨r,hr,rfl⟩ := List.mem_map.1 he
 simp only [stpC,List.mem_cons,List.not_mem_nil,or_false] at hd
 rcases hd with rfl | rfl | rfl | rfl | rfl | rfl | rfl
 ·rfl
 ·rfl
 ·rfl
 ·rfl
 ·exact (h r hr).1
 ·exact (h r hr).2
 ·rfl
theorem few_ev {s0 : St} {x : D} {l : List Pat} {c : List UInt8} (hx : SlD x 2 (l.map patC)) : ∃ d,Ev pv 40 [.agg [x, .str c]] s0 d s0 /\ ∃ z,d = .agg [z, .str c] /\ SlD z 2 ((l.take 3).map patC) := by
 refine Ev.mkR rfl fi40 rfl rfl rfl ?_
 dsimp only [List.cons_append,List.nil_append,List.length,Nat.reduceSub,Nat.reduceAdd,List.replicate_succ,List.replicate_zero]
 have hSb : (enterSt .ro s0).bs = s0.bs := rfl
 have hF : (enterSt .ro s0).flr <= s0.bs.length := Nat.le_refl _
 have hH : Has s0.bs.length (enterSt .ro s0) (enterSt .ro s0) [] := Has.start (Nat.le_refl _) (Nat.le_refl _)
 generalize enterSt .ro s0 = S at *
 have hxa : Arg s0.bs.length S 2 x (l.map patC) := hx.arg _ _
 have hxc := hx.cells.1
 try change EvC _ _ _ _ _ _
 repeat refine EvC.seq ?_
 try generalize hK : SeqQ _ _ _ _ = K
 refine EvC.reg ?_
 refine EvO.hbox (cs := [x, .str c]) hH rfl (by rfl) (fun _ => by dsimp only [Fr.put,List.set_cons_succ,List.set_cons_zero] <;> rfl) (fun k1 st hk1 hH => ?_)
 refine EvO.halloc hH rfl rfl (fun _ => by dsimp only [Fr.put,List.set_cons_succ,List.set_cons_zero] <;> rfl) (fun k2 st hk2 hH => ?_)
 try dsimp only [List.set_cons_zero,List.set_cons_succ,List.cons_append,List.nil_append,setMany,List.map_cons,List.map_nil,D.cells,Nat.reduceAdd,List.nil_append] at hH
 refine EvO.nil ?_
 try subst hK
 try change EvC _ _ _ _ _ _
 try change EvC _ _ _ _ _ _
 repeat refine EvC.seq ?_
 try generalize hK : SeqQ _ _ _ _ = K
 refine EvC.reg ?_
 refine EvO.pfield (fo := 0) (m := 0) (o := 0) rfl (ev rfl) rfl rfl rfl (put_T rfl _) ?_
 first | refine EvO.hload hH rfl (ev rfl) (by first | exact at0 | exact at1 | exact at2 | exact at3 | exact at4 | exact at5 | exact at6 | exact at7) rfl (put_T rfl _) ?_ | refine EvO.rload rfl (ev rfl) (by assumption) rfl (put_T rfl _) ?_ | refine EvO.oload hH rfl (ev rfl) (by assumption) (by first | exact at0 | exact at1 | exact at2 | exact at3 | exact at4 | exact at5 | exact at6 | exact at7) (by assumption) rfl (put_T rfl _) ?_
 first | refine EvO.rlen rfl (ev rfl) (Arg.rows (by assumption) hH) rfl (put_T rfl _) ?_ | refine EvO.rlen rfl (ev rfl) (hH.rows (by first | exact at0 | exact at1 | exact at2 | exact at3 | exact at4 | exact at5 | exact at6 | exact at7)) rfl (put_T rfl _) ?_ | refine EvO.slen rfl rfl rfl (put_T rfl _) ?_ | refine EvO.go rfl rfl rfl (put_T rfl _) ?_
 try simp only [List.length_map,List.length_append,List.length_cons,List.length_nil,List.length_set,List.length_replicate,List.length_reverse]
 refine EvO.go rfl rfl rfl (put_T rfl _) ?_
 refine EvO.nil ?_
 try subst hK
 try change EvC _ _ _ _ _ _
 try change EvC _ _ _ _ _ _
 repeat refine EvC.seq ?_
 refine EvC.cond (by first | rfl | assumption) (fun h1 => ?_) (fun h1 => ?_) <;> try simp only [decide_eq_true_eq,decide_eq_false_iff_not,beq_iff_eq,beq_eq_false_iff_ne,bne_iff_ne,bne_eq_false_iff_eq,ne_eq,Bool.not_eq_true',Bool.not_eq_false',Bool.not_eq_true,Bool.not_eq_false] at h1
 ·have h1 : 3 < l.length := by omega
  have hb3 : boundsD (l.map patC).length none (some (.int .i64 3)) = some (0,3) := bounds_to (n := 3) (by rw [List.length_map]; omega)
  try change EvC _ _ _ _ _ _
  repeat refine EvC.seq ?_
  try generalize hK : SeqQ _ _ _ _ = K
  refine EvC.reg ?_
  refine EvO.pfield (fo := 0) (m := 0) (o := 0) rfl (ev rfl) rfl rfl rfl (put_T rfl _) ?_
  first | refine EvO.hload hH rfl (ev rfl) (by first | exact at0 | exact at1 | exact at2 | exact at3 | exact at4 | exact at5 | exact at6 | exact at7) rfl (put_T rfl _) ?_ | refine EvO.rload rfl (ev rfl) (by assumption) rfl (put_T rfl _) ?_ | refine EvO.oload hH rfl (ev rfl) (by assumption) (by first | exact at0 | exact at1 | exact at2 | exact at3 | exact at4 | exact at5 | exact at6 | exact at7) (by assumption) rfl (put_T rfl _) ?_
  refine EvO.pslice rfl (ev rfl) hx rfl rfl hb3 (fun _ => (put_T rfl _)) (fun y9 hy9 => ?_)
  have hy9c := hy9.cells.1
  refine EvO.pfield (fo := 0) (m := 0) (o := 0) rfl (ev rfl) rfl rfl rfl (put_T rfl _) ?_
  refine EvO.hstore hH rfl (ev rfl) (ev rfl) (by first | rfl | exact (SlD.cells (by assumption)).1 | exact hH.ocells (by first | exact at0 | exact at1 | exact at2 | exact at3 | exact at4 | exact at5 | exact at6 | exact at7) | exact hH.dcells (by first | exact at0 | exact at1 | exact at2 | exact at3 | exact at4 | exact at5 | exact at6 | exact at7) | assumption) (by exact rfl) (by first | exact at0 | exact at1 | exact at2 | exact at3 | exact at4 | exact at5 | exact at6 | exact at7) (by exact Nat.le_of_ble_eq_true rfl) (by first | exact .inl hF | exact .inr rfl | exact .inr (by assumption)) (fun st hH => ?_)
  try dsimp only [List.set_cons_zero,List.set_cons_succ,List.cons_append,List.nil_append,setMany,List.map_cons,List.map_nil,D.cells,Nat.reduceAdd,List.nil_append] at hH
  refine EvO.nil ?_
  try subst hK
  try change EvC _ _ _ _ _ _
  try change EvC _ _ _ _ _ _
  repeat refine EvC.seq ?_
  try generalize hK : SeqQ _ _ _ _ = K
  refine EvC.reg ?_
  first | refine EvO.hloadS (m := 2) hH rfl (ev rfl) (by first | exact at0 | exact at1 | exact at2 | exact at3 | exact at4 | exact at5 | exact at6 | exact at7) (by dsimp only [List.drop_succ_cons,List.drop_zero,List.take_succ_cons,List.take_zero] <;> rfl) rfl rfl (put_T rfl _) ?_ | refine EvO.rload rfl (ev rfl) (by assumption) rfl (put_T rfl _) ?_ | refine EvO.oload hH rfl (ev rfl) (by assumption) (by first | exact at0 | exact at1 | exact at2 | exact at3 | exact at4 | exact at5 | exact at6 | exact at7) (by assumption) rfl (put_T rfl _) ?_
  refine EvO.hstoreA hH rfl (ev rfl) (ev rfl) (by first | rfl | exact (SlD.cells (by assumption)).1 | exact hH.ocells (by first | exact at0 | exact at1 | exact at2 | exact at3 | exact at4 | exact at5 | exact at6 | exact at7) | exact hH.dcells (by first | exact at0 | exact at1 | exact at2 | exact at3 | exact at4 | exact at5 | exact at6 | exact at7) | assumption) (by exact rfl) (by first | exact at0 | exact at1 | exact at2 | exact at3 | exact at4 | exact at5 | exact at6 | exact at7) (by exact rfl) (by first | exact .inl hF | exact .inr rfl | exact .inr (by assumption)) (fun st hH => ?_)
  try dsimp only [List.set_cons_zero,List.set_cons_succ,List.cons_append,List.nil_append,setMany,List.map_cons,List.map_nil,D.cells,Nat.reduceAdd,List.nil_append] at hH
  refine EvO.nil ?_
  try subst hK
  try change EvC _ _ _ _ _ _
  have hy9' : SlD y9 2 ((l.take 3).map patC) := by rw [List.map_take]; exact hy9
  obtain ⟨z,hz1,hz2⟩ := frzSet hy9' c st s0.bs.length
  refine EvC.ret ⟨fun i h => (by cases h),_,_,hH.resCell rfl at0 rfl,leave_ro (by simp) hSb hH hz1,?_⟩
  exact ⟨z,rfl,hz2⟩
 ·refine EvC.skip ?_
  try change EvC _ _ _ _ _ _
  try change EvC _ _ _ _ _ _
  repeat refine EvC.seq ?_
  try generalize hK : SeqQ _ _ _ _ = K
  refine EvC.reg ?_
  first | refine EvO.hloadS (m := 2) hH rfl (ev rfl) (by first | exact at0 | exact at1 | exact at2 | exact at3 | exact at4 | exact at5 | exact at6 | exact at7) (by dsimp only [List.drop_succ_cons,List.drop_zero,List.take_succ_cons,List.take_zero] <;> rfl) rfl rfl (put_T rfl _) ?_ | refine EvO.rload rfl (ev rfl) (by assumption) rfl (put_T rfl _) ?_ | refine EvO.oload hH rfl (ev rfl) (by assumption) (by first | exact at0 | exact at1 | exact at2 | exact at3 | exact at4 | exact at5 | exact at6 | exact at7) (by assumption) rfl (put_T rfl _) ?_
  refine EvO.hstoreA hH rfl (ev rfl) (ev rfl) (by first | rfl | exact (SlD.cells (by assumption)).1 | exact hH.ocells (by first | exact at0 | exact at1 | exact at2 | exact at3 | exact at4 | exact at5 | exact at6 | exact at7) | exact hH.dcells (by first | exact at0 | exact at1 | exact at2 | exact at3 | exact at4 | exact at5 | exact at6 | exact at7) | assumption) (by exact rfl) (by first | exact at0 | exact at1 | exact at2 | exact at3 | exact at4 | exact at5 | exact at6 | exact at7) (by exact rfl) (by first | exact .inl hF | exact .inr rfl | exact .inr (by assumption)) (fun st hH => ?_)
  try dsimp only [List.set_cons_zero,List.set_cons_succ,List.cons_append,List.nil_append,setMany,List.map_cons,List.map_nil,D.cells,Nat.reduceAdd,List.nil_append] at hH
  refine EvO.nil ?_
  try subst hK
  try change EvC _ _ _ _ _ _
  have hx' : SlD x 2 ((l.take 3).map patC) := by rw [List.take_of_length_le (by omega)]; exact hx
  obtain ⟨z,hz1,hz2⟩ := frzSet hx' c st s0.bs.length
  refine EvC.ret ⟨fun i h => (by cases h),_,_,hH.resCell rfl at0 rfl,leave_ro (by simp) hSb hH hz1,?_⟩
  exact ⟨z,rfl,hz2⟩
theorem short_ev {s0 : St} {s : Stp} (hs : s.ok) : ∃ d,Ev pv 19 [.agg (stpC s)] s0 d s0 /\ ∃ s' : Stp,d = .agg (stpC s') /\ s'.ok /\ s'.pl /\ s'.kind = s.kind := by
 obtain ⟨k,n,nm,to,y,b,x,l,c⟩ := s
 obtain ⟨hy,lb,hx,ll,ln,lt⟩ := hs
 simp only at hy lb hx ll ln lt
 unfold stpC
 simp only
 refine Ev.mkR rfl fi19 rfl rfl rfl ?_
 dsimp only [List.cons_append,List.nil_append,List.length,Nat.reduceSub,Nat.reduceAdd,List.replicate_succ,List.replicate_zero]
 have hSb : (enterSt .ro s0).bs = s0.bs := rfl
 have hF : (enterSt .ro s0).flr <= s0.bs.length := Nat.le_refl _
 have hH : Has s0.bs.length (enterSt .ro s0) (enterSt .ro s0) [] := Has.start (Nat.le_refl _) (Nat.le_refl _)
 generalize enterSt .ro s0 = S at *
 have hya : Arg s0.bs.length S 1 y (V.byteCells b) := hy.arg _ _
 have hbl : (V.byteCells b).length = b.length := by simp [V.byteCells]
 have hxc := hx.cells.1
 have hyc := hy.cells.1
 try change EvC _ _ _ _ _ _
 repeat refine EvC.seq ?_
 try generalize hK : SeqQ _ _ _ _ = K
 refine EvC.reg ?_
 refine EvO.hbox (cs := [.int .i64 k, .int .i64 n, .str nm, .str to,y,x, .str c]) hH rfl (by rfl) (fun _ => by dsimp only [Fr.put,List.set_cons_succ,List.set_cons_zero] <;> rfl) (fun k1 st hk1 hH => ?_)
 refine EvO.halloc hH rfl rfl (fun _ => by dsimp only [Fr.put,List.set_cons_succ,List.set_cons_zero] <;> rfl) (fun k2 st hk2 hH => ?_)
 try dsimp only [List.set_cons_zero,List.set_cons_succ,List.cons_append,List.nil_append,setMany,List.map_cons,List.map_nil,D.cells,Nat.reduceAdd,List.nil_append,stpC] at hH
 refine EvO.nil ?_
 try subst hK
 try change EvC _ _ _ _ _ _
 try change EvC _ _ _ _ _ _
 repeat refine EvC.seq ?_
 try generalize hK : SeqQ _ _ _ _ = K
 refine EvC.reg ?_
 refine EvO.pfield (fo := 4) (m := 0) (o := 4) rfl (ev rfl) rfl rfl rfl (put_T rfl _) ?_
 first | refine EvO.hload hH rfl (ev rfl) (by first | exact at0 | exact at1 | exact at2 | exact at3 | exact at4 | exact at5 | exact at6 | exact at7) rfl (put_T rfl _) ?_ | refine EvO.rload rfl (ev rfl) (by assumption) rfl (put_T rfl _) ?_ | refine EvO.oload hH rfl (ev rfl) (by assumption) (by first | exact at0 | exact at1 | exact at2 | exact at3 | exact at4 | exact at5 | exact at6 | exact at7) (by assumption) rfl (put_T rfl _) ?_
 first | refine EvO.rlen rfl (ev rfl) (Arg.rows (by assumption) hH) rfl (put_T rfl _) ?_ | refine EvO.rlen rfl (ev rfl) (hH.rows (by first | exact at0 | exact at1 | exact at2 | exact at3 | exact at4 | exact at5 | exact at6 | exact at7)) rfl (put_T rfl _) ?_ | refine EvO.slen rfl rfl rfl (put_T rfl _) ?_ | refine EvO.go rfl rfl rfl (put_T rfl _) ?_
 try simp only [List.length_map,List.length_append,List.length_cons,List.length_nil,List.length_set,List.length_replicate,List.length_reverse]
 refine EvO.go rfl rfl rfl (put_T rfl _) ?_
 refine EvO.nil ?_
 try subst hK
 try change EvC _ _ _ _ _ _
 obtain ⟨_,hfev,z,rfl,hz⟩ := few_ev (s0 := st) (c := c) hx
 have hzc := hz.cells.1
 try change EvC _ _ _ _ _ _
 repeat refine EvC.seq ?_
 refine EvC.cond (by first | rfl | assumption) (fun h1 => ?_) (fun h1 => ?_) <;> try simp only [decide_eq_true_eq,decide_eq_false_iff_not,beq_iff_eq,beq_eq_false_iff_ne,bne_iff_ne,bne_eq_false_iff_eq,ne_eq,Bool.not_eq_true',Bool.not_eq_false',Bool.not_eq_true,Bool.not_eq_false] at h1
 ·have hb3 : boundsD (V.byteCells b).length none (some (.int .i64 250)) = some (0,250) := bounds_to (n := 250) (by omega)
  try change EvC _ _ _ _ _ _
  repeat refine EvC.seq ?_
  try generalize hK : SeqQ _ _ _ _ = K
  refine EvC.reg ?_
  refine EvO.pfield (fo := 4) (m := 0) (o := 4) rfl (ev rfl) rfl rfl rfl (put_T rfl _) ?_
  first | refine EvO.hload hH rfl (ev rfl) (by first | exact at0 | exact at1 | exact at2 | exact at3 | exact at4 | exact at5 | exact at6 | exact at7) rfl (put_T rfl _) ?_ | refine EvO.rload rfl (ev rfl) (by assumption) rfl (put_T rfl _) ?_ | refine EvO.oload hH rfl (ev rfl) (by assumption) (by first | exact at0 | exact at1 | exact at2 | exact at3 | exact at4 | exact at5 | exact at6 | exact at7) (by assumption) rfl (put_T rfl _) ?_
  refine EvO.pslice rfl (ev rfl) hy rfl rfl hb3 (fun _ => (put_T rfl _)) (fun y9 hy9 => ?_)
  have hy9c := hy9.cells.1
  refine EvO.pfield (fo := 4) (m := 0) (o := 4) rfl (ev rfl) rfl rfl rfl (put_T rfl _) ?_
  refine EvO.hstore hH rfl (ev rfl) (ev rfl) (by first | rfl | exact (SlD.cells (by assumption)).1 | exact hH.ocells (by first | exact at0 | exact at1 | exact at2 | exact at3 | exact at4 | exact at5 | exact at6 | exact at7) | exact hH.dcells (by first | exact at0 | exact at1 | exact at2 | exact at3 | exact at4 | exact at5 | exact at6 | exact at7) | assumption) (by exact rfl) (by first | exact at0 | exact at1 | exact at2 | exact at3 | exact at4 | exact at5 | exact at6 | exact at7) (by exact Nat.le_of_ble_eq_true rfl) (by first | exact .inl hF | exact .inr rfl | exact .inr (by assumption)) (fun st hH => ?_)
  try dsimp only [List.set_cons_zero,List.set_cons_succ,List.cons_append,List.nil_append,setMany,List.map_cons,List.map_nil,D.cells,Nat.reduceAdd,List.nil_append,stpC] at hH
  refine EvO.nil ?_
  try subst hK
  try change EvC _ _ _ _ _ _
  obtain ⟨_,hfev,z,rfl,hz⟩ := few_ev (s0 := st) (c := c) hx
  have hzc := hz.cells.1
  try change EvC _ _ _ _ _ _
  repeat refine EvC.seq ?_
  try generalize hK : SeqQ _ _ _ _ = K
  refine EvC.reg ?_
  refine EvO.pfield (fo := 5) (m := 1) (o := 5) rfl (ev rfl) rfl rfl rfl (put_T rfl _) ?_
  first | refine EvO.hloadS (m := 2) hH rfl (ev rfl) (by first | exact at0 | exact at1 | exact at2 | exact at3 | exact at4 | exact at5 | exact at6 | exact at7) (by dsimp only [List.drop_succ_cons,List.drop_zero,List.take_succ_cons,List.take_zero,stpC] <;> rfl) rfl rfl (put_T rfl _) ?_ | refine EvO.rload rfl (ev rfl) (by assumption) rfl (put_T rfl _) ?_ | refine EvO.oload hH rfl (ev rfl) (by assumption) (by first | exact at0 | exact at1 | exact at2 | exact at3 | exact at4 | exact at5 | exact at6 | exact at7) (by assumption) rfl (put_T rfl _) ?_
  refine EvO.hcall rfl rfl hfev (put_T rfl _) ?_
  refine EvO.pfield (fo := 5) (m := 1) (o := 5) rfl (ev rfl) rfl rfl rfl (put_T rfl _) ?_
  refine EvO.hstore hH rfl (ev rfl) (ev rfl) (by first | rfl | exact (SlD.cells (by assumption)).1 | exact hH.ocells (by first | exact at0 | exact at1 | exact at2 | exact at3 | exact at4 | exact at5 | exact at6 | exact at7) | exact hH.dcells (by first | exact at0 | exact at1 | exact at2 | exact at3 | exact at4 | exact at5 | exact at6 | exact at7) | assumption) (by exact rfl) (by first | exact at0 | exact at1 | exact at2 | exact at3 | exact at4 | exact at5 | exact at6 | exact at7) (by exact Nat.le_of_ble_eq_true rfl) (by first | exact .inl hF | exact .inr rfl | exact .inr (by assumption)) (fun st hH => ?_)
  try dsimp only [List.set_cons_zero,List.set_cons_succ,List.cons_append,List.nil_append,setMany,List.map_cons,List.map_nil,D.cells,Nat.reduceAdd,List.nil_append,stpC] at hH
  refine EvO.nil ?_
  try subst hK
  try change EvC _ _ _ _ _ _
  try change EvC _ _ _ _ _ _
  repeat refine EvC.seq ?_
  try generalize hK : SeqQ _ _ _ _ = K
  refine EvC.reg ?_
  first | refine EvO.hloadS (m := 7) hH rfl (ev rfl) (by first | exact at0 | exact at1 | exact at2 | exact at3 | exact at4 | exact at5 | exact at6 | exact at7) (by dsimp only [List.drop_succ_cons,List.drop_zero,List.take_succ_cons,List.take_zero,stpC] <;> rfl) rfl rfl (put_T rfl _) ?_ | refine EvO.rload rfl (ev rfl) (by assumption) rfl (put_T rfl _) ?_ | refine EvO.oload hH rfl (ev rfl) (by assumption) (by first | exact at0 | exact at1 | exact at2 | exact at3 | exact at4 | exact at5 | exact at6 | exact at7) (by assumption) rfl (put_T rfl _) ?_
  refine EvO.hstoreA hH rfl (ev rfl) (ev rfl) (by first | rfl | exact (SlD.cells (by assumption)).1 | exact hH.ocells (by first | exact at0 | exact at1 | exact at2 | exact at3 | exact at4 | exact at5 | exact at6 | exact at7) | exact hH.dcells (by first | exact at0 | exact at1 | exact at2 | exact at3 | exact at4 | exact at5 | exact at6 | exact at7) | assumption) (by exact rfl) (by first | exact at0 | exact at1 | exact at2 | exact at3 | exact at4 | exact at5 | exact at6 | exact at7) (by exact rfl) (by first | exact .inl hF | exact .inr rfl | exact .inr (by assumption)) (fun st hH => ?_)
  try dsimp only [List.set_cons_zero,List.set_cons_succ,List.cons_append,List.nil_append,setMany,List.map_cons,List.map_nil,D.cells,Nat.reduceAdd,List.nil_append,stpC] at hH
  refine EvO.nil ?_
  try subst hK
  try change EvC _ _ _ _ _ _
  have hy9' : SlD y9 1 (V.byteCells (b.take 250)) := by unfold V.byteCells at hy9 ⊢; rw [List.map_take]; exact hy9
  obtain ⟨y',x',hz1,hy',hx',hp⟩ := frzStp (k := k) (n0 := n) (nm := nm) (to := to) (c := c) hy9' hz st s0.bs.length
  refine EvC.ret ⟨fun i h => (by cases h),_,_,hH.resCell rfl at0 rfl,leave_ro (by simp) hSb hH hz1,?_⟩
  exact ⟨⟨k,n,nm,to,y',b.take 250,x',l.take 3,c⟩,rfl,⟨hy',by simp; omega,hx',by simp; omega,ln,lt⟩,hp,rfl⟩
 ·refine EvC.skip ?_
  try change EvC _ _ _ _ _ _
  try change EvC _ _ _ _ _ _
  repeat refine EvC.seq ?_
  try generalize hK : SeqQ _ _ _ _ = K
  refine EvC.reg ?_
  refine EvO.pfield (fo := 5) (m := 1) (o := 5) rfl (ev rfl) rfl rfl rfl (put_T rfl _) ?_
  first | refine EvO.hloadS (m := 2) hH rfl (ev rfl) (by first | exact at0 | exact at1 | exact at2 | exact at3 | exact at4 | exact at5 | exact at6 | exact at7) (by dsimp only [List.drop_succ_cons,List.drop_zero,List.take_succ_cons,List.take_zero,stpC] <;> rfl) rfl rfl (put_T rfl _) ?_ | refine EvO.rload rfl (ev rfl) (by assumption) rfl (put_T rfl _) ?_ | refine EvO.oload hH rfl (ev rfl) (by assumption) (by first | exact at0 | exact at1 | exact at2 | exact at3 | exact at4 | exact at5 | exact at6 | exact at7) (by assumption) rfl (put_T rfl _) ?_
  refine EvO.hcall rfl rfl hfev (put_T rfl _) ?_
  refine EvO.pfield (fo := 5) (m := 1) (o := 5) rfl (ev rfl) rfl rfl rfl (put_T rfl _) ?_
  refine EvO.hstore hH rfl (ev rfl) (ev rfl) (by first | rfl | exact (SlD.cells (by assumption)).1 | exact hH.ocells (by first | exact at0 | exact at1 | exact at2 | exact at3 | exact at4 | exact at5 | exact at6 | exact at7) | exact hH.dcells (by first | exact at0 | exact at1 | exact at2 | exact at3 | exact at4 | exact at5 | exact at6 | exact at7) | assumption) (by exact rfl) (by first | exact at0 | exact at1 | exact at2 | exact at3 | exact at4 | exact at5 | exact at6 | exact at7) (by exact Nat.le_of_ble_eq_true rfl) (by first | exact .inl hF | exact .inr rfl | exact .inr (by assumption)) (fun st hH => ?_)
  try dsimp only [List.set_cons_zero,List.set_cons_succ,List.cons_append,List.nil_append,setMany,List.map_cons,List.map_nil,D.cells,Nat.reduceAdd,List.nil_append,stpC] at hH
  refine EvO.nil ?_
  try subst hK
  try change EvC _ _ _ _ _ _
  try change EvC _ _ _ _ _ _
  repeat refine EvC.seq ?_
  try generalize hK : SeqQ _ _ _ _ = K
  refine EvC.reg ?_
  first | refine EvO.hloadS (m := 7) hH rfl (ev rfl) (by first | exact at0 | exact at1 | exact at2 | exact at3 | exact at4 | exact at5 | exact at6 | exact at7) (by dsimp only [List.drop_succ_cons,List.drop_zero,List.take_succ_cons,List.take_zero,stpC] <;> rfl) rfl rfl (put_T rfl _) ?_ | refine EvO.rload rfl (ev rfl) (by assumption) rfl (put_T rfl _) ?_ | refine EvO.oload hH rfl (ev rfl) (by assumption) (by first | exact at0 | exact at1 | exact at2 | exact at3 | exact at4 | exact at5 | exact at6 | exact at7) (by assumption) rfl (put_T rfl _) ?_
  refine EvO.hstoreA hH rfl (ev rfl) (ev rfl) (by first | rfl | exact (SlD.cells (by assumption)).1 | exact hH.ocells (by first | exact at0 | exact at1 | exact at2 | exact at3 | exact at4 | exact at5 | exact at6 | exact at7) | exact hH.dcells (by first | exact at0 | exact at1 | exact at2 | exact at3 | exact at4 | exact at5 | exact at6 | exact at7) | assumption) (by exact rfl) (by first | exact at0 | exact at1 | exact at2 | exact at3 | exact at4 | exact at5 | exact at6 | exact at7) (by exact rfl) (by first | exact .inl hF | exact .inr rfl | exact .inr (by assumption)) (fun st hH => ?_)
  try dsimp only [List.set_cons_zero,List.set_cons_succ,List.cons_append,List.nil_append,setMany,List.map_cons,List.map_nil,D.cells,Nat.reduceAdd,List.nil_append,stpC] at hH
  refine EvO.nil ?_
  try subst hK
  try change EvC _ _ _ _ _ _
  obtain ⟨y',x',hz1,hy',hx',hp⟩ := frzStp (k := k) (n0 := n) (nm := nm) (to := to) (c := c) hy hz st s0.bs.length
  refine EvC.ret ⟨fun i h => (by cases h),_,_,hH.resCell rfl at0 rfl,leave_ro (by simp) hSb hH hz1,?_⟩
  exact ⟨⟨k,n,nm,to,y',b,x',l.take 3,c⟩,rfl,⟨hy',lb,hx',by simp; omega,ln,lt⟩,hp,rfl⟩
theorem steps_ev {s0 : St} {y : D} {b : List Stp} (hy : SlD y 7 (b.map stpC)) (hl : b.length <= 1048576) (hok : ∀ s ∈ b,s.ok) : ∃ d,Ev pv 5 [y, .int .i64 50] s0 d s0 /\ ∃ os : List Stp,SlD d 7 (os.map stpC) /\ os.length <= 50 /\ ∀ s ∈ os,s.ok /\ s.kind ≠ 9 := by
 refine Ev.mkR rfl fi5 rfl rfl rfl ?_
 dsimp only [List.cons_append,List.nil_append,List.length,Nat.reduceSub,Nat.reduceAdd,List.replicate_succ,List.replicate_zero]
 have hSb : (enterSt .ro s0).bs = s0.bs := rfl
 have hF : (enterSt .ro s0).flr <= s0.bs.length := Nat.le_refl _
 have hH : Has s0.bs.length (enterSt .ro s0) (enterSt .ro s0) [] := Has.start (Nat.le_refl _) (Nat.le_refl _)
 generalize enterSt .ro s0 = S at *
 have hya : Arg s0.bs.length S 7 y (b.map stpC) := hy.arg _ _
 have hbl : (b.map stpC).length = b.length := List.length_map _
 have hH := hH.nulE 7
 try change EvC _ _ _ _ _ _
 repeat refine EvC.seq ?_
 try generalize hK : SeqQ _ _ _ _ = K
 refine EvC.reg ?_
 refine EvO.mv (.inr rfl) rfl (ev rfl) (by dsimp only [Fr.put,List.set_cons_succ,List.set_cons_zero] <;> rfl) ?_
 refine EvO.nil ?_
 try subst hK
 try change EvC _ _ _ _ _ _
 try change EvC _ _ _ _ _ _
 repeat refine EvC.seq ?_
 try generalize hK : SeqQ _ _ _ _ = K
 refine EvC.reg ?_
 refine EvO.mv (.inr rfl) rfl (ev rfl) (by dsimp only [Fr.put,List.set_cons_succ,List.set_cons_zero] <;> rfl) ?_
 refine EvO.nil ?_
 try subst hK
 try change EvC _ _ _ _ _ _
 try change EvC _ _ _ _ _ _
 repeat refine EvC.seq ?_
 try generalize hK : SeqQ _ _ _ _ = K
 refine EvC.reg ?_
 refine EvO.mv (.inr rfl) rfl (ev rfl) (by dsimp only [Fr.put,List.set_cons_succ,List.set_cons_zero] <;> rfl) ?_
 refine EvO.nil ?_
 try subst hK
 try change EvC _ _ _ _ _ _
 try change EvC _ _ _ _ _ _
 repeat refine EvC.seq ?_
 refine EvC.block ?_
 refine EvC.loop (fun mm fr st => ∃ (i : Nat) (z : D) (os : List Stp),fr.clean = ⟨7, [y, .int .i64 50,ixF_To fr 2,ixF_To fr 3,ixF_To fr 4,z, .int .i64 (i : Nat)], []⟩ /\ Has s0.bs.length S st [.lst z 7 (os.map stpC)] /\ (i + mm = b.length) /\ (os.length <= 50) /\ (∀ s ∈ os,(s.ok /\ s.kind ≠ 9) /\ s.pl)) (b.length) ?_ ?_
 ·exact ⟨0, .nul, [],rfl,hH,by omega,by simp,(fun s hs => by cases hs)⟩
 rintro mm fr st ⟨i,z,os,hfr,hH,hi,ho,hos⟩
 rw [hfr]
 clear hfr
 try generalize ixF_To fr = ee
 clear fr
 try change EvC _ _ _ _ _ _
 have hol : (os.map stpC).length = os.length := List.length_map _
 try change EvC _ _ _ _ _ _
 repeat refine EvC.seq ?_
 refine EvC.cutT 16 (.bool (decide (((i : Nat) : Int) < ((b.length : Nat) : Int)) && decide (((os.length : Nat) : Int) < 50))) [] ?_ (fun ff tmp htmp => ?_)
 ·refine EvO.mv (.inl rfl) rfl (ev rfl) (put_T rfl _) ?_
  refine EvO.mv (.inl rfl) rfl (ev rfl) (put_T rfl _) ?_
  first | refine EvO.rlen rfl (ev rfl) (Arg.rows (by assumption) hH) rfl (put_T rfl _) ?_ | refine EvO.rlen rfl (ev rfl) (hH.rows (by first | exact at0 | exact at1 | exact at2 | exact at3 | exact at4 | exact at5 | exact at6 | exact at7)) rfl (put_T rfl _) ?_ | refine EvO.slen rfl rfl rfl (put_T rfl _) ?_ | refine EvO.go rfl rfl rfl (put_T rfl _) ?_
  try simp only [List.length_map,List.length_append,List.length_cons,List.length_nil,List.length_set,List.length_replicate,List.length_reverse]
  refine EvO.go rfl rfl rfl (put_T rfl _) ?_
  refine EvO.mv (.inl rfl) rfl (ev rfl) (put_T rfl _) ?_
  refine EvO.two 11 rfl (fun hg4 => ?_) (fun hg4 => ?_)
  ·refine EvO.mv (.inl rfl) (wantD_is rfl rfl rfl hg4) (ev rfl) (put_T rfl _) ?_
   first | refine EvO.rlen (wantD_is rfl rfl rfl hg4) (ev rfl) (Arg.rows (by assumption) hH) rfl (put_T rfl _) ?_ | refine EvO.rlen (wantD_is rfl rfl rfl hg4) (ev rfl) (hH.rows (by first | exact at0 | exact at1 | exact at2 | exact at3 | exact at4 | exact at5 | exact at6 | exact at7)) rfl (put_T rfl _) ?_ | refine EvO.slen (wantD_is rfl rfl rfl hg4) rfl rfl (put_T rfl _) ?_ | refine EvO.go (wantD_is rfl rfl rfl hg4) rfl rfl (put_T rfl _) ?_
   try simp only [List.length_map,List.length_append,List.length_cons,List.length_nil,List.length_set,List.length_replicate,List.length_reverse]
   refine EvO.mv (.inl rfl) (wantD_is rfl rfl rfl hg4) (ev rfl) (put_T rfl _) ?_
   refine EvO.go (wantD_is rfl rfl rfl hg4) rfl rfl (put_T rfl _) ?_
   refine EvO.pickT rfl rfl hg4 (put_T rfl _) ?_
   refine EvO.nil (leafT ?_ ?_)
   ·try dsimp only [setW,List.foldl_cons,List.foldl_nil,nth,List.set_cons_zero,List.set_cons_succ]
    all_goals (first | rfl | simp)
   ·try dsimp only [Fr.putO,Fr.put,Fr.clean,Fr.ev,Fr.get,nth,Go.V.look,List.set_cons_succ,List.set_cons_zero,ofVal_int,ofVal_bool,ofVal_str,ofVal_nul,ofVal_pnil,ofVal_nilfn,ofVal_nilif,List.length,List.cons_append,List.nil_append,List.append_nil,Nat.reduceSub,Nat.reduceAdd,List.map,List.map_cons,List.map_nil]
    all_goals (first | rfl | (simp [hg4]; done) | (simp_all; done) | (simp [hg4]; omega) | (simp_all; omega))
  ·refine EvO.skip (wantD_not rfl rfl rfl hg4) (put_T rfl _) ?_
   refine EvO.skip (wantD_not rfl rfl rfl hg4) (put_T rfl _) ?_
   refine EvO.skip (wantD_not rfl rfl rfl hg4) (put_T rfl _) ?_
   refine EvO.skip (wantD_not rfl rfl rfl hg4) (put_T rfl _) ?_
   refine EvO.pickF rfl rfl hg4 (put_T rfl _) ?_
   refine EvO.nil (leafT ?_ ?_)
   ·try dsimp only [setW,List.foldl_cons,List.foldl_nil,nth,List.set_cons_zero,List.set_cons_succ]
    all_goals (first | rfl | simp)
   ·try dsimp only [Fr.putO,Fr.put,Fr.clean,Fr.ev,Fr.get,nth,Go.V.look,List.set_cons_succ,List.set_cons_zero,ofVal_int,ofVal_bool,ofVal_str,ofVal_nul,ofVal_pnil,ofVal_nilfn,ofVal_nilif,List.length,List.cons_append,List.nil_append,List.append_nil,Nat.reduceSub,Nat.reduceAdd,List.map,List.map_cons,List.map_nil]
    all_goals (first | rfl | (simp [hg4]; done) | (simp_all; done) | (simp [hg4]; omega) | (simp_all; omega))
 try dsimp only [setW,List.foldl_cons,List.foldl_nil,nth,List.set_cons_zero,List.set_cons_succ]
 try dsimp only [Fr.putO,Fr.put,Fr.clean,Fr.ev,Fr.get,nth,Go.V.look,List.set_cons_succ,List.set_cons_zero,ofVal_int,ofVal_bool,ofVal_str,ofVal_nul,ofVal_pnil,ofVal_nilfn,ofVal_nilif,List.length,List.cons_append,List.nil_append,List.append_nil,Nat.reduceSub,Nat.reduceAdd,List.map,List.map_cons,List.map_nil]
 try change EvC _ _ _ _ _ _
 try change EvC _ _ _ _ _ _
 repeat refine EvC.seq ?_
 refine EvC.cond (by first | rfl | assumption) (fun h1 => ?_) (fun h1 => ?_) <;> try simp only [decide_eq_true_eq,decide_eq_false_iff_not,beq_iff_eq,beq_eq_false_iff_ne,bne_iff_ne,bne_eq_false_iff_eq,ne_eq,Bool.not_eq_true',Bool.not_eq_false',Bool.not_eq_true,Bool.not_eq_false] at h1
 ·simp only [Bool.and_eq_true,decide_eq_true_eq] at h1
  obtain ⟨h1,h50⟩ := h1
  refine EvC.skip ?_
  try change EvC _ _ _ _ _ _
  obtain ⟨r,hr0⟩ : ∃ r,b[i]? = some r := ⟨b[i]'(by omega),List.getElem?_eq_getElem _⟩
  have hr1 : (b.map stpC)[i]? = some [.int .i64 r.kind, .int .i64 r.n, .str r.nm, .str r.to,r.y,r.x, .str r.c] := by rw [List.getElem?_map,hr0]; rfl
  have hrk := hok r (List.mem_of_getElem? hr0)
  try change EvC _ _ _ _ _ _
  repeat refine EvC.seq ?_
  refine EvC.block ?_
  try change EvC _ _ _ _ _ _
  repeat refine EvC.seq ?_
  try generalize hK : SeqQ _ _ _ _ = K
  refine EvC.reg ?_
  refine EvO.mv (.inl rfl) rfl (ev rfl) (put_T rfl _) ?_
  refine EvO.mv (.inl rfl) rfl (ev rfl) (put_T rfl _) ?_
  first | refine EvO.ridx rfl (ev rfl) (ev rfl) (Arg.rows (by assumption) hH) rfl rfl (by assumption) (fun _ => (put_T rfl _)) (fun p21 hp21 => ?_) | refine EvO.oidx hH rfl (ev rfl) (ev rfl) (by first | exact at0 | exact at1 | exact at2 | exact at3 | exact at4 | exact at5 | exact at6 | exact at7) rfl rfl (by first | exact lt_get (by assumption) | omega | (simp only [List.length_map,List.length_append,List.length_cons,List.length_nil,List.length_set,List.length_replicate] <;> omega)) (fun _ => (put_T rfl _)) (fun p21 hp21 => ?_)
  first | refine EvO.rfieldN (fo := 0) (m := 0) rfl (ev rfl) (by assumption) rfl rfl (fun _ => (put_T rfl _)) (fun p22 hp22 => ?_) | refine EvO.ofieldN (fo := 0) (m := 0) (o2 := 0) rfl (ev rfl) (by assumption) rfl rfl rfl (fun _ => (put_T rfl _)) (fun p22 hp22 => ?_)
  first | refine EvO.rload rfl (ev rfl) (by assumption) rfl (put_T rfl _) ?_ | refine EvO.oload hH rfl (ev rfl) (by assumption) (by first | exact at0 | exact at1 | exact at2 | exact at3 | exact at4 | exact at5 | exact at6 | exact at7) (by assumption) rfl (put_T rfl _) ?_ | refine EvO.hload hH rfl (ev rfl) (by first | exact at0 | exact at1 | exact at2 | exact at3 | exact at4 | exact at5 | exact at6 | exact at7) rfl (put_T rfl _) ?_
  refine EvO.go rfl rfl rfl (put_T rfl _) ?_
  refine EvO.nil ?_
  try subst hK
  try change EvC _ _ _ _ _ _
  try change EvC _ _ _ _ _ _
  repeat refine EvC.seq ?_
  refine EvC.cond (by first | rfl | assumption) (fun h2 => ?_) (fun h2 => ?_) <;> try simp only [decide_eq_true_eq,decide_eq_false_iff_not,beq_iff_eq,beq_eq_false_iff_ne,bne_iff_ne,bne_eq_false_iff_eq,ne_eq,Bool.not_eq_true',Bool.not_eq_false',Bool.not_eq_true,Bool.not_eq_false] at h2
  ·obtain ⟨_,hsev,s',rfl,hs',hsp,hsk⟩ := short_ev (s0 := st) hrk
   try change EvC _ _ _ _ _ _
   repeat refine EvC.seq ?_
   try generalize hK : SeqQ _ _ _ _ = K
   refine EvC.reg ?_
   refine EvO.mv (.inl rfl) rfl (ev rfl) (put_T rfl _) ?_
   refine EvO.mv (.inl rfl) rfl (ev rfl) (put_T rfl _) ?_
   refine EvO.mv (.inl rfl) rfl (ev rfl) (put_T rfl _) ?_
   first | refine EvO.ridx rfl (ev rfl) (ev rfl) (Arg.rows (by assumption) hH) rfl rfl (by assumption) (fun _ => (put_T rfl _)) (fun p28 hp28 => ?_) | refine EvO.oidx hH rfl (ev rfl) (ev rfl) (by first | exact at0 | exact at1 | exact at2 | exact at3 | exact at4 | exact at5 | exact at6 | exact at7) rfl rfl (by first | exact lt_get (by assumption) | omega | (simp only [List.length_map,List.length_append,List.length_cons,List.length_nil,List.length_set,List.length_replicate] <;> omega)) (fun _ => (put_T rfl _)) (fun p28 hp28 => ?_)
   first | refine EvO.rloadS rfl (ev rfl) (by assumption) rfl (put_T rfl _) ?_ | refine EvO.oloadS hH rfl (ev rfl) (by assumption) (by first | exact at0 | exact at1 | exact at2 | exact at3 | exact at4 | exact at5 | exact at6 | exact at7) (by assumption) rfl (put_T rfl _) ?_ | refine EvO.hloadS (m := 7) hH rfl (ev rfl) (by first | exact at0 | exact at1 | exact at2 | exact at3 | exact at4 | exact at5 | exact at6 | exact at7) (by dsimp only [List.drop_succ_cons,List.drop_zero,List.take_succ_cons,List.take_zero,stpC] <;> rfl) rfl rfl (put_T rfl _) ?_
   refine EvO.hcall rfl rfl hsev (put_T rfl _) ?_
   refine EvO.hlist (s := 7) (vs := [_]) hH rfl rfl rfl rfl rfl (Nat.le_of_ble_eq_true rfl) ⟨rfl,(ev rfl),trivial⟩ rfl (by intro v hv; first | (cases hv; done) | (simp only [List.mem_cons,List.not_mem_nil,or_false] at hv; rcases hv with rfl <;> exact ⟨rfl,rfl⟩)) (fun _ => (put_T rfl _)) (fun k31 st hk31 hH => ?_)
   try dsimp only [List.set_cons_zero,List.set_cons_succ,List.cons_append,List.nil_append,setMany,List.map_cons,List.map_nil,D.cells,Nat.reduceAdd,List.nil_append,stpC] at hH
   refine EvO.happend (s := 7) hH rfl (ev rfl) (ev rfl) (by first | exact at0 | exact at1 | exact at2 | exact at3 | exact at4 | exact at5 | exact at6 | exact at7) (by first | exact hH.rows (by first | exact at0 | exact at1 | exact at2 | exact at3 | exact at4 | exact at5 | exact at6 | exact at7) | exact Arg.rows (by assumption) hH) rfl rfl rfl rfl rfl rfl rfl ⟨(Nat.le_of_ble_eq_true rfl),(Nat.le_of_ble_eq_true rfl)⟩ (fun _ => (put_T rfl _)) (by first | omega | (simp only [List.length_append,List.length_cons,List.length_nil,List.length_map,List.length_replicate,List.length_set,List.length_reverse] <;> omega)) (by first | exact .inl hF | exact .inr rfl | exact .inr (by assumption)) (fun x32 st hH => ?_)
   try dsimp only [List.set_cons_zero,List.set_cons_succ,List.cons_append,List.nil_append,setMany,List.map_cons,List.map_nil,D.cells,Nat.reduceAdd,List.nil_append,stpC] at hH
   refine EvO.mv (.inr rfl) rfl (ev rfl) (by dsimp only [Fr.put,List.set_cons_succ,List.set_cons_zero] <;> rfl) ?_
   refine EvO.nil ?_
   try subst hK
   try change EvC _ _ _ _ _ _
   try change EvC _ _ _ _ _ _
   repeat refine EvC.seq ?_
   try generalize hK : SeqQ _ _ _ _ = K
   refine EvC.reg ?_
   refine EvO.mv (.inl rfl) rfl (ev rfl) (put_T rfl _) ?_
   refine EvO.addZ (z := ((i + 1 : Nat) : Int)) rfl (ev rfl) (ev rfl) (by (try simp only [List.length_reverse,List.length_cons,List.length_nil,List.length_append,List.length_map,List.length_set]); first | (rw [wrap_i64 (by omega) (by omega)] <;> omega) | (rw [wrap_i32 (by omega) (by omega)] <;> omega)) (put_T rfl _) ?_
   refine EvO.mv (.inr rfl) rfl (ev rfl) (by dsimp only [Fr.put,List.set_cons_succ,List.set_cons_zero] <;> rfl) ?_
   refine EvO.nil ?_
   try subst hK
   try change EvC _ _ _ _ _ _
   refine ⟨mm - 1,by omega,⟨i + 1,_,os ++ [s'],rfl,(by rw [List.map_append]; exact hH.drop 1),by omega,by simp; omega,?_⟩⟩
   intro s hs
   rcases List.mem_append.1 hs with h | h
   ·exact hos s h
   ·rw [List.mem_singleton.1 h]; exact ⟨⟨hs',by rw [hsk]; exact h2⟩,hsp⟩
  ·refine EvC.skip ?_
   try change EvC _ _ _ _ _ _
   try change EvC _ _ _ _ _ _
   repeat refine EvC.seq ?_
   try generalize hK : SeqQ _ _ _ _ = K
   refine EvC.reg ?_
   refine EvO.mv (.inl rfl) rfl (ev rfl) (put_T rfl _) ?_
   refine EvO.addZ (z := ((i + 1 : Nat) : Int)) rfl (ev rfl) (ev rfl) (by (try simp only [List.length_reverse,List.length_cons,List.length_nil,List.length_append,List.length_map,List.length_set]); first | (rw [wrap_i64 (by omega) (by omega)] <;> omega) | (rw [wrap_i32 (by omega) (by omega)] <;> omega)) (put_T rfl _) ?_
   refine EvO.mv (.inr rfl) rfl (ev rfl) (by dsimp only [Fr.put,List.set_cons_succ,List.set_cons_zero] <;> rfl) ?_
   refine EvO.nil ?_
   try subst hK
   try change EvC _ _ _ _ _ _
   exact ⟨mm - 1,by omega,⟨i + 1,z,os,rfl,hH,by omega,ho,hos⟩⟩
 ·try change EvC _ _ _ _ _ _
  refine EvC.exit ?_
  try change EvC _ _ _ _ _ _
  try change EvC _ _ _ _ _ _
  repeat refine EvC.seq ?_
  try generalize hK : SeqQ _ _ _ _ = K
  refine EvC.reg ?_
  refine EvO.mv (.inl rfl) rfl (ev rfl) (put_T rfl _) ?_
  refine EvO.mv (.inr rfl) rfl (ev rfl) (by dsimp only [Fr.put,List.set_cons_succ,List.set_cons_zero] <;> rfl) ?_
  refine EvO.nil ?_
  try subst hK
  try change EvC _ _ _ _ _ _
  have hpl := stp_plain (fun s hs => (hos s hs).2)
  refine EvC.ret ⟨fun i h => (by cases h),_,_,rfl,leave_ro (by simp) hSb hH ((hH.freezeL at0 hpl (by decide))),?_⟩
  exact ⟨os,SlD.frozen (stp_len os) hpl,ho,fun s hs => (hos s hs).1⟩
end Go.Proofs.YtopaaegigcfkeaaGreat
namespace Go.Proofs.YtopaaegigcfkeaaGreat
open Go.V Go
def ixF_Tp (fr : Go.V.Fr) (k : Nat) : Go.V.D := Go.V.nth .junk fr.loc k
theorem yp_front {N : Nat} {S st : St} {H A : List Ent} {ky kf : Nat} {a x : D} {L : List Fy} (hL : YOk L) (h : Has N S st (A ++ (.box ky (.mem 0 false [.ptr kf 0 0,a]) :: .box kf (.mem 0 false [x]) :: .lst x 3 ((fr1 L).map flC) :: (L.map bE ++ H)))) : YP N S (A ++ H) ky kf a st :=
 ⟨x,L,hL,Has.rot A (.box ky (.mem 0 false [.ptr kf 0 0,a]) :: .box kf (.mem 0 false [x]) :: .lst x 3 ((fr1 L).map flC) :: L.map bE) h⟩
theorem yp_back {N : Nat} {S st : St} {H A : List Ent} {ky kf : Nat} {a : D} (h : YP N S (A ++ H) ky kf a st) : ∃ x L,YOk L /\ Has N S st (A ++ (.box ky (.mem 0 false [.ptr kf 0 0,a]) :: .box kf (.mem 0 false [x]) :: .lst x 3 ((fr1 L).map flC) :: (L.map bE ++ H))) := by
 obtain ⟨x,L,hL,h⟩ := h
 exact ⟨x,L,hL,Has.rot (.box ky (.mem 0 false [.ptr kf 0 0,a]) :: .box kf (.mem 0 false [x]) :: .lst x 3 ((fr1 L).map flC) :: L.map bE) A h⟩
def NoL (r : D) : Prop := r = .nul \/ r = .sl []
theorem NoL.rows {r : D} (h : NoL r) (s : Nat) : SlD r s [] := by
 rcases h with rfl | rfl
 ·exact .inl ⟨rfl,rfl⟩
 ·exact .inr ⟨[],rfl,rfl,fun d hd => by cases hd⟩
theorem NoL.cells {r : D} (h : NoL r) : r.cells? = some [r] := (h.rows 1).cells.1
theorem poll_ev {N : Nat} {S s0 : St} {H : List Ent} {kF : Nat} {b1 b3 b4 b5 b6 : D} (hH : Has N S s0 (.box kF (.mem 0 false [b1, .pnil,b3,b4,b5,b6]) :: H)) : Ev pv 49 [.ptr kF 0 0] s0 .nul s0 := by
 refine Ev.mk1 rfl fi49 rfl rfl rfl ?_
 dsimp only [List.cons_append,List.nil_append,List.length,Nat.reduceSub,Nat.reduceAdd,List.replicate_succ,List.replicate_zero]
 change EvC _ _ _ _ s0 _
 try change EvC _ _ _ _ _ _
 repeat refine EvC.seq ?_
 try generalize hK : SeqQ _ _ _ _ = K
 refine EvC.reg ?_
 refine EvO.mv (.inr rfl) rfl (ev rfl) (by dsimp only [Fr.put,List.set_cons_succ,List.set_cons_zero] <;> rfl) ?_
 refine EvO.nil ?_
 try subst hK
 try change EvC _ _ _ _ _ _
 try change EvC _ _ _ _ _ _
 repeat refine EvC.seq ?_
 try generalize hK : SeqQ _ _ _ _ = K
 refine EvC.reg ?_
 refine EvO.mv (.inl rfl) rfl (ev rfl) (by dsimp only [Fr.put,List.set_cons_succ,List.set_cons_zero] <;> rfl) ?_
 refine EvO.go rfl rfl rfl (by dsimp only [Fr.put,List.set_cons_succ,List.set_cons_zero] <;> rfl) ?_
 refine EvO.pfield (fo := 1) (m := 0) (o := 1) rfl (ev rfl) rfl rfl rfl (by dsimp only [Fr.put,List.set_cons_succ,List.set_cons_zero] <;> rfl) ?_
 first | refine EvO.hload hH rfl (ev rfl) (by first | exact at0 | exact at1 | exact at2 | exact at3 | exact at4 | exact at5 | exact at6 | exact at7) rfl (by dsimp only [Fr.put,List.set_cons_succ,List.set_cons_zero] <;> rfl) ?_ | refine EvO.rload rfl (ev rfl) (by assumption) rfl (by dsimp only [Fr.put,List.set_cons_succ,List.set_cons_zero] <;> rfl) ?_ | refine EvO.oload hH rfl (ev rfl) (by assumption) (by first | exact at0 | exact at1 | exact at2 | exact at3 | exact at4 | exact at5 | exact at6 | exact at7) (by assumption) rfl (by dsimp only [Fr.put,List.set_cons_succ,List.set_cons_zero] <;> rfl) ?_
 refine EvO.go (d := .bool true) (st1 := _) rfl rfl rfl (by dsimp only [Fr.put,List.set_cons_succ,List.set_cons_zero] <;> rfl) ?_
 refine EvO.nil ?_
 try subst hK
 try change EvC _ _ _ _ _ _
 try change EvC _ _ _ _ _ _
 repeat refine EvC.seq ?_
 refine EvC.cond (v := true) (by first | rfl | assumption) (fun _ => ?_) (fun h => by cases h)
 try change EvC _ _ _ _ _ _
 try change EvC _ _ _ _ _ _
 repeat refine EvC.seq ?_
 try generalize hK : SeqQ _ _ _ _ = K
 refine EvC.reg ?_
 refine EvO.mv (.inr rfl) rfl (ev rfl) (by dsimp only [Fr.put,List.set_cons_succ,List.set_cons_zero] <;> rfl) ?_
 refine EvO.nil ?_
 try subst hK
 try change EvC _ _ _ _ _ _
 refine EvC.ret ⟨fun i h => (by cases h),_,rfl,rfl⟩
theorem list_ev {s0 : St} {kl : Nat} {n : Int} {c1 c3 : D} (hb : s0.bs[kl]? = some (.mem 0 false [c1, .nul,c3])) : Ev pv 88 [.ptr kl 0 0, .int .i64 n] s0 (.sl []) s0 := by
 refine Ev.mk1 rfl fi88 rfl rfl rfl ?_
 dsimp only [List.cons_append,List.nil_append,List.length,Nat.reduceSub,Nat.reduceAdd,List.replicate_succ,List.replicate_zero]
 have hSb : (enterSt .ro s0).bs = s0.bs := rfl
 have hF : (enterSt .ro s0).flr <= s0.bs.length := Nat.le_refl _
 have hH : Has s0.bs.length (enterSt .ro s0) (enterSt .ro s0) [] := Has.start (Nat.le_refl _) (Nat.le_refl _)
 generalize enterSt .ro s0 = S at *
 have hxa : Arg s0.bs.length S 1 .nul [] := Arg.of .nul hSb
 have hmn : min (max n 0) 0 = 0 := by omega
 try change EvC _ _ _ _ _ _
 repeat refine EvC.seq ?_
 try generalize hK : SeqQ _ _ _ _ = K
 refine EvC.reg ?_
 refine EvO.mv (.inr rfl) rfl (ev rfl) (by dsimp only [Fr.put,List.set_cons_succ,List.set_cons_zero] <;> rfl) ?_
 refine EvO.nil ?_
 try subst hK
 try change EvC _ _ _ _ _ _
 have hp1 := ptr_is hb hSb hH
 try change EvC _ _ _ _ _ _
 repeat refine EvC.seq ?_
 try generalize hK : SeqQ _ _ _ _ = K
 refine EvC.reg ?_
 refine EvO.mv (.inl rfl) rfl (ev rfl) (put_T rfl _) ?_
 first | refine EvO.maxS (t1 := 0) (t2 := 0) rfl (ev rfl) (ev rfl) (put_T rfl _) ?_ | refine EvO.go rfl rfl rfl (put_T rfl _) ?_
 refine EvO.mv (.inl rfl) rfl (ev rfl) (put_T rfl _) ?_
 refine EvO.go (d := .ptr kl 0 0) (st1 := _) rfl rfl rfl (put_T rfl _) ?_
 refine EvO.rfieldN (fo := 1) (m := 0) rfl (ev rfl) hp1 rfl rfl (fun _ => (put_T rfl _)) (fun p9 hp9 => ?_)
 refine EvO.rload (d := .nul) rfl (ev rfl) hp9 rfl (put_T rfl _) ?_
 refine EvO.go (d := .int .i64 0) (st1 := _) rfl rfl rfl (put_T rfl _) ?_
 first | refine EvO.minS (t1 := 0) (t2 := 0) rfl (ev rfl) (ev rfl) (put_T rfl _) ?_ | refine EvO.go rfl rfl rfl (put_T rfl _) ?_
 refine EvO.mv (.inr rfl) rfl (ev rfl) (by dsimp only [Fr.put,List.set_cons_succ,List.set_cons_zero] <;> rfl) ?_
 refine EvO.nil ?_
 try subst hK
 try change EvC _ _ _ _ _ _
 rw [hmn]
 have hp1 := ptr_is hb hSb hH
 try change EvC _ _ _ _ _ _
 repeat refine EvC.seq ?_
 try generalize hK : SeqQ _ _ _ _ = K
 refine EvC.reg ?_
 refine EvO.mv (.inl rfl) rfl (ev rfl) (put_T rfl _) ?_
 refine EvO.go (d := .ptr kl 0 0) (st1 := _) rfl rfl rfl (put_T rfl _) ?_
 refine EvO.rfieldN (fo := 1) (m := 0) rfl (ev rfl) hp1 rfl rfl (fun _ => (put_T rfl _)) (fun p9 hp9 => ?_)
 refine EvO.rload (d := .nul) rfl (ev rfl) hp9 rfl (put_T rfl _) ?_
 refine EvO.mv (.inl rfl) rfl (ev rfl) (put_T rfl _) ?_
 refine EvO.go (d := .nul) (st1 := _) rfl rfl rfl (put_T rfl _) ?_
 refine EvO.go (d := .nul) (st1 := _) rfl rfl rfl (put_T rfl _) ?_
 refine EvO.mv (.inr rfl) rfl (ev rfl) (by dsimp only [Fr.put,List.set_cons_succ,List.set_cons_zero] <;> rfl) ?_
 refine EvO.nil ?_
 try subst hK
 try change EvC _ _ _ _ _ _
 refine EvC.ret ⟨fun i h => (by cases h),_,rfl,leave_ro (by simp) hSb hH (rfl)⟩
theorem fquery_ev {s0 : St} {kF kl : Nat} {n : Int} {b1 b2 b4 b5 b6 c1 c3 : D} (hb : s0.bs[kF]? = some (.mem 0 false [b1,b2, .ptr kl 0 0,b4,b5,b6])) (hl : s0.bs[kl]? = some (.mem 0 false [c1, .nul,c3])) : Ev pv 51 [.ptr kF 0 0, .int .i64 n] s0 (.sl []) s0 := by
 refine Ev.mk1 rfl fi51 rfl rfl rfl ?_
 dsimp only [List.cons_append,List.nil_append,List.length,Nat.reduceSub,Nat.reduceAdd,List.replicate_succ,List.replicate_zero]
 have hSb : (enterSt .ro s0).bs = s0.bs := rfl
 have hF : (enterSt .ro s0).flr <= s0.bs.length := Nat.le_refl _
 have hH : Has s0.bs.length (enterSt .ro s0) (enterSt .ro s0) [] := Has.start (Nat.le_refl _) (Nat.le_refl _)
 generalize enterSt .ro s0 = S at *
 have hg := list_ev (s0 := S) (n := n) (by rw [hSb]; exact hl)
 try change EvC _ _ _ _ _ _
 repeat refine EvC.seq ?_
 try generalize hK : SeqQ _ _ _ _ = K
 refine EvC.reg ?_
 refine EvO.mv (.inr rfl) rfl (ev rfl) (by dsimp only [Fr.put,List.set_cons_succ,List.set_cons_zero] <;> rfl) ?_
 refine EvO.nil ?_
 try subst hK
 try change EvC _ _ _ _ _ _
 have hp1 := ptr_is hb hSb hH
 try change EvC _ _ _ _ _ _
 repeat refine EvC.seq ?_
 try generalize hK : SeqQ _ _ _ _ = K
 refine EvC.reg ?_
 refine EvO.mv (.inl rfl) rfl (ev rfl) (put_T rfl _) ?_
 refine EvO.go (d := .ptr kF 0 0) (st1 := _) rfl rfl rfl (put_T rfl _) ?_
 refine EvO.rfieldN (fo := 2) (m := 0) rfl (ev rfl) hp1 rfl rfl (fun _ => (put_T rfl _)) (fun p10 hp10 => ?_)
 refine EvO.rload (d := .ptr kl 0 0) rfl (ev rfl) hp10 rfl (put_T rfl _) ?_
 refine EvO.mv (.inl rfl) rfl (ev rfl) (put_T rfl _) ?_
 refine EvO.hcall rfl rfl hg (put_T rfl _) ?_
 refine EvO.mv (.inr rfl) rfl (ev rfl) (by dsimp only [Fr.put,List.set_cons_succ,List.set_cons_zero] <;> rfl) ?_
 refine EvO.nil ?_
 try subst hK
 try change EvC _ _ _ _ _ _
 refine EvC.ret ⟨fun i h => (by cases h),_,rfl,leave_ro (by simp) hSb hH (rfl)⟩
theorem entries_ev {s0 : St} {kF kp : Nat} {a1 a2 a3 a4 a6 : D} (hb : s0.bs[kF]? = some (.mem 0 false [a1,a2,a3,a4, .ptr kp 0 0,a6])) (hp : s0.bs[kp]? = some (.mem 0 false [.nul])) : Ev pv 14 [.ptr kF 0 0] s0 (.sl []) s0 := by
 refine Ev.mk1 rfl fi14 rfl rfl rfl ?_
 dsimp only [List.cons_append,List.nil_append,List.length,Nat.reduceSub,Nat.reduceAdd,List.replicate_succ,List.replicate_zero]
 have hSb : (enterSt .ro s0).bs = s0.bs := rfl
 have hF : (enterSt .ro s0).flr <= s0.bs.length := Nat.le_refl _
 have hH : Has s0.bs.length (enterSt .ro s0) (enterSt .ro s0) [] := Has.start (Nat.le_refl _) (Nat.le_refl _)
 generalize enterSt .ro s0 = S at *
 have hg := live_ev (s0 := S) (by rw [hSb]; exact hb) (by rw [hSb]; exact hp)
 try change EvC _ _ _ _ _ _
 repeat refine EvC.seq ?_
 try generalize hK : SeqQ _ _ _ _ = K
 refine EvC.reg ?_
 refine EvO.mv (.inr rfl) rfl (ev rfl) (by dsimp only [Fr.put,List.set_cons_succ,List.set_cons_zero] <;> rfl) ?_
 refine EvO.nil ?_
 try subst hK
 try change EvC _ _ _ _ _ _
 try change EvC _ _ _ _ _ _
 repeat refine EvC.seq ?_
 try generalize hK : SeqQ _ _ _ _ = K
 refine EvC.reg ?_
 refine EvO.mv (.inr rfl) rfl (ev rfl) (by dsimp only [Fr.put,List.set_cons_succ,List.set_cons_zero] <;> rfl) ?_
 refine EvO.nil ?_
 try subst hK
 try change EvC _ _ _ _ _ _
 try change EvC _ _ _ _ _ _
 repeat refine EvC.seq ?_
 try generalize hK : SeqQ _ _ _ _ = K
 refine EvC.reg ?_
 refine EvO.mv (.inl rfl) rfl (ev rfl) (by dsimp only [Fr.put,List.set_cons_succ,List.set_cons_zero] <;> rfl) ?_
 refine EvO.hcall rfl rfl hg (by dsimp only [Fr.put,List.set_cons_succ,List.set_cons_zero] <;> rfl) ?_
 refine EvO.go (d := .int .i64 0) (st1 := _) rfl rfl rfl (by dsimp only [Fr.put,List.set_cons_succ,List.set_cons_zero] <;> rfl) ?_
 refine EvO.mv (.inl rfl) rfl (ev rfl) (by dsimp only [Fr.put,List.set_cons_succ,List.set_cons_zero] <;> rfl) ?_
 refine EvO.nil ?_
 try subst hK
 try change EvC _ _ _ _ _ _
 try change EvC _ _ _ _ _ _
 repeat refine EvC.seq ?_
 refine EvC.block ?_
 refine EvC.loop (fun mm fr st => ∃ (u : Nat),fr.clean = ⟨14, [.ptr kF 0 0,ixF_Tp fr 1,ixF_Tp fr 2, .nul,ixF_Tp fr 4,ixF_Tp fr 5,ixF_Tp fr 6,ixF_Tp fr 7,ixF_Tp fr 8,ixF_Tp fr 9,ixF_Tp fr 10, .sl [], .int .i64 0, .int .i64 0], []⟩ /\ Has s0.bs.length S st [] /\ (u = 0)) (0) ?_ ?_
 ·exact ⟨0,rfl,hH,rfl⟩
 rintro mm fr st ⟨u,hfr,hH,hu⟩
 rw [hfr]
 clear hfr
 try generalize ixF_Tp fr = ee
 clear fr
 try change EvC _ _ _ _ _ _
 try change EvC _ _ _ _ _ _
 repeat refine EvC.seq ?_
 try generalize hK : SeqQ _ _ _ _ = K
 refine EvC.reg ?_
 refine EvO.go rfl rfl rfl (put_T rfl _) ?_
 refine EvO.nil ?_
 try subst hK
 try change EvC _ _ _ _ _ _
 try change EvC _ _ _ _ _ _
 repeat refine EvC.seq ?_
 refine EvC.cond (by first | rfl | assumption) (fun hlt => ?_) (fun hlt => ?_) <;> try simp only [decide_eq_true_eq,decide_eq_false_iff_not,beq_iff_eq,beq_eq_false_iff_ne,bne_iff_ne,bne_eq_false_iff_eq,ne_eq,Bool.not_eq_true',Bool.not_eq_false',Bool.not_eq_true,Bool.not_eq_false] at hlt
 ·omega
 ·try change EvC _ _ _ _ _ _
  refine EvC.exit ?_
  try change EvC _ _ _ _ _ _
  try change EvC _ _ _ _ _ _
  repeat refine EvC.seq ?_
  try generalize hK : SeqQ _ _ _ _ = K
  refine EvC.reg ?_
  refine EvO.mv (.inl rfl) rfl (ev rfl) (put_T rfl _) ?_
  refine EvO.mv (.inr rfl) rfl (ev rfl) (by dsimp only [Fr.put,List.set_cons_succ,List.set_cons_zero] <;> rfl) ?_
  refine EvO.nil ?_
  try subst hK
  try change EvC _ _ _ _ _ _
  refine EvC.ret ⟨fun i h => (by cases h),_,rfl,leave_ro (by simp) hSb hH (rfl)⟩
theorem asked_ev {N : Nat} {S s0 : St} {H : List Ent} {kw kF kl : Nat} {a1 a2 b1 b4 b5 b6 c1 c3 : D} {e1 e2 e3 : Ent} {s : Stp} (hs : s.ok) (hk : s.kind ≠ 7) (hF : S.flr <= N) (hH : Has N S s0 (.box kw (.mem 0 false [a1,a2, .ptr kF 0 0]) :: e1 :: e2 :: .box kF (.mem 0 false [b1, .pnil, .ptr kl 0 0,b4,b5,b6]) :: e3 :: .box kl (.mem 0 false [c1, .nul,c3]) :: H)) : ∃ d st',Ev pv 27 [.ptr kw 0 0, .agg (stpC s)] s0 d st' /\ (∃ r,NoL r /\ d = .agg [.int .i64 0, .int .i64 0, .nul,r]) /\ Has N S st' (.box kw (.mem 0 false [a1,a2, .ptr kF 0 0]) :: e1 :: e2 :: .box kF (.mem 0 false [b1, .pnil, .ptr kl 0 0,b4,b5,b6]) :: e3 :: .box kl (.mem 0 false [c1, .nul,c3]) :: H) := by
 obtain ⟨k,n,nm,to,y,b,x,l,c⟩ := s
 obtain ⟨hy,lb,hx,ll,ln,lt⟩ := hs
 simp only at hy lb hx ll ln lt hk
 unfold stpC
 simp only
 have hxc := hx.cells.1
 have hyc := hy.cells.1
 refine Ev.mkE rfl fi27 rfl rfl rfl ?_
 dsimp only [List.cons_append,List.nil_append,List.length,Nat.reduceSub,Nat.reduceAdd,List.replicate_succ,List.replicate_zero]
 change EvC _ _ _ _ s0 _
 try change EvC _ _ _ _ _ _
 repeat refine EvC.seq ?_
 try generalize hK : SeqQ _ _ _ _ = K
 refine EvC.reg ?_
 refine EvO.hbox (cs := [.int .i64 k, .int .i64 n, .str nm, .str to,y,x, .str c]) hH rfl (by rfl) (fun _ => by dsimp only [Fr.put,List.set_cons_succ,List.set_cons_zero] <;> rfl) (fun k3 st hk3 hH => ?_)
 refine EvO.halloc hH rfl rfl (fun _ => by dsimp only [Fr.put,List.set_cons_succ,List.set_cons_zero] <;> rfl) (fun k4 st hk4 hH => ?_)
 try dsimp only [List.set_cons_zero,List.set_cons_succ,List.cons_append,List.nil_append,setMany,List.map_cons,List.map_nil,D.cells,Nat.reduceAdd,List.nil_append,stpC] at hH
 refine EvO.nil ?_
 try subst hK
 try change EvC _ _ _ _ _ _
 try change EvC _ _ _ _ _ _
 repeat refine EvC.seq ?_
 try generalize hK : SeqQ _ _ _ _ = K
 refine EvC.reg ?_
 refine EvO.mv (.inl rfl) rfl (ev rfl) (by dsimp only [Fr.put,List.set_cons_succ,List.set_cons_zero] <;> rfl) ?_
 refine EvO.go rfl rfl rfl (by dsimp only [Fr.put,List.set_cons_succ,List.set_cons_zero] <;> rfl) ?_
 refine EvO.pfield (fo := 2) (m := 0) (o := 2) rfl (ev rfl) rfl rfl rfl (by dsimp only [Fr.put,List.set_cons_succ,List.set_cons_zero] <;> rfl) ?_
 first | refine EvO.hload hH rfl (ev rfl) (by first | exact at0 | exact at1 | exact at2 | exact at3 | exact at4 | exact at5 | exact at6 | exact at7) rfl (by dsimp only [Fr.put,List.set_cons_succ,List.set_cons_zero] <;> rfl) ?_ | refine EvO.rload rfl (ev rfl) (by assumption) rfl (by dsimp only [Fr.put,List.set_cons_succ,List.set_cons_zero] <;> rfl) ?_ | refine EvO.oload hH rfl (ev rfl) (by assumption) (by first | exact at0 | exact at1 | exact at2 | exact at3 | exact at4 | exact at5 | exact at6 | exact at7) (by assumption) rfl (by dsimp only [Fr.put,List.set_cons_succ,List.set_cons_zero] <;> rfl) ?_
 refine EvO.go (d := .bool false) (st1 := _) rfl rfl rfl (by dsimp only [Fr.put,List.set_cons_succ,List.set_cons_zero] <;> rfl) ?_
 refine EvO.nil ?_
 try subst hK
 try change EvC _ _ _ _ _ _
 try change EvC _ _ _ _ _ _
 repeat refine EvC.seq ?_
 refine EvC.cond (v := false) (by first | rfl | assumption) (fun h => by cases h) (fun _ => ?_)
 try change EvC _ _ _ _ _ _
 refine EvC.skip ?_
 try change EvC _ _ _ _ _ _
 try change EvC _ _ _ _ _ _
 repeat refine EvC.seq ?_
 try generalize hK : SeqQ _ _ _ _ = K
 refine EvC.reg ?_
 refine EvO.pfield (fo := 0) (m := 0) (o := 0) rfl (ev rfl) rfl rfl rfl (by dsimp only [Fr.put,List.set_cons_succ,List.set_cons_zero] <;> rfl) ?_
 first | refine EvO.hload hH rfl (ev rfl) (by first | exact at0 | exact at1 | exact at2 | exact at3 | exact at4 | exact at5 | exact at6 | exact at7) rfl (by dsimp only [Fr.put,List.set_cons_succ,List.set_cons_zero] <;> rfl) ?_ | refine EvO.rload rfl (ev rfl) (by assumption) rfl (by dsimp only [Fr.put,List.set_cons_succ,List.set_cons_zero] <;> rfl) ?_ | refine EvO.oload hH rfl (ev rfl) (by assumption) (by first | exact at0 | exact at1 | exact at2 | exact at3 | exact at4 | exact at5 | exact at6 | exact at7) (by assumption) rfl (by dsimp only [Fr.put,List.set_cons_succ,List.set_cons_zero] <;> rfl) ?_
 refine EvO.nil ?_
 try subst hK
 try change EvC _ _ _ _ _ _
 try change EvC _ _ _ _ _ _
 repeat refine EvC.seq ?_
 refine EvC.block ?_
 try change EvC _ _ _ _ _ _
 repeat refine EvC.seq ?_
 try generalize hK : SeqQ _ _ _ _ = K
 refine EvC.reg ?_
 refine EvO.go rfl rfl rfl (put_T rfl _) ?_
 refine EvO.mv (.inr rfl) rfl (ev rfl) (put_T rfl _) ?_
 refine EvO.nil ?_
 try subst hK
 try change EvC _ _ _ _ _ _
 try change EvC _ _ _ _ _ _
 repeat refine EvC.seq ?_
 refine EvC.cond (by first | rfl | assumption) (fun h1 => ?_) (fun h1 => ?_) <;> try simp only [decide_eq_true_eq,decide_eq_false_iff_not,beq_iff_eq,beq_eq_false_iff_ne,bne_iff_ne,bne_eq_false_iff_eq,ne_eq,Bool.not_eq_true',Bool.not_eq_false',Bool.not_eq_true,Bool.not_eq_false] at h1
 ·try change EvC _ _ _ _ _ _
  repeat refine EvC.seq ?_
  try generalize hK : SeqQ _ _ _ _ = K
  refine EvC.reg ?_
  refine EvO.mv (.inl rfl) rfl (ev rfl) (put_T rfl _) ?_
  refine EvO.go rfl rfl rfl (put_T rfl _) ?_
  refine EvO.pfield (fo := 2) (m := 0) (o := 2) rfl (ev rfl) rfl rfl rfl (put_T rfl _) ?_
  first | refine EvO.hload hH rfl (ev rfl) (by first | exact at0 | exact at1 | exact at2 | exact at3 | exact at4 | exact at5 | exact at6 | exact at7) rfl (put_T rfl _) ?_ | refine EvO.rload rfl (ev rfl) (by assumption) rfl (put_T rfl _) ?_ | refine EvO.oload hH rfl (ev rfl) (by assumption) (by first | exact at0 | exact at1 | exact at2 | exact at3 | exact at4 | exact at5 | exact at6 | exact at7) (by assumption) rfl (put_T rfl _) ?_
  refine EvO.hcall rfl rfl (poll_ev (hH.drop 5)) (put_T rfl _) ?_
  refine EvO.go rfl rfl rfl (put_T rfl _) ?_
  refine EvO.hstoreA hH rfl (ev rfl) (ev rfl) (by first | rfl | exact (SlD.cells (by assumption)).1 | exact hH.ocells (by first | exact at0 | exact at1 | exact at2 | exact at3 | exact at4 | exact at5 | exact at6 | exact at7) | exact hH.dcells (by first | exact at0 | exact at1 | exact at2 | exact at3 | exact at4 | exact at5 | exact at6 | exact at7) | assumption) (by exact rfl) (by first | exact at0 | exact at1 | exact at2 | exact at3 | exact at4 | exact at5 | exact at6 | exact at7) (by exact rfl) (by first | exact .inl hF | exact .inr rfl | exact .inr (by assumption)) (fun st hH => ?_)
  try dsimp only [List.set_cons_zero,List.set_cons_succ,List.cons_append,List.nil_append,setMany,List.map_cons,List.map_nil,D.cells,Nat.reduceAdd,List.nil_append,stpC] at hH
  refine EvO.nil ?_
  try subst hK
  try change EvC _ _ _ _ _ _
  refine EvC.ret ⟨fun i h => (by cases h),_,_,_,hH.resCell rfl at0 rfl,rfl,?_⟩
  exact ⟨⟨.nul, .inl rfl,rfl⟩,hH.drop 2⟩
 ·try change EvC _ _ _ _ _ _
  repeat refine EvC.seq ?_
  try generalize hK : SeqQ _ _ _ _ = K
  refine EvC.reg ?_
  refine EvO.go rfl rfl rfl (put_T rfl _) ?_
  refine EvO.mv (.inr rfl) rfl (ev rfl) (put_T rfl _) ?_
  refine EvO.nil ?_
  try subst hK
  try change EvC _ _ _ _ _ _
  try change EvC _ _ _ _ _ _
  repeat refine EvC.seq ?_
  refine EvC.cond (by first | rfl | assumption) (fun h2 => ?_) (fun h2 => ?_) <;> try simp only [decide_eq_true_eq,decide_eq_false_iff_not,beq_iff_eq,beq_eq_false_iff_ne,bne_iff_ne,bne_eq_false_iff_eq,ne_eq,Bool.not_eq_true',Bool.not_eq_false',Bool.not_eq_true,Bool.not_eq_false] at h2
  ·exact absurd h2 hk
  ·refine EvC.skip ?_
   try change EvC _ _ _ _ _ _
   try change EvC _ _ _ _ _ _
   repeat refine EvC.seq ?_
   try generalize hK : SeqQ _ _ _ _ = K
   refine EvC.reg ?_
   refine EvO.mv (.inl rfl) rfl (ev rfl) (put_T rfl _) ?_
   refine EvO.go rfl rfl rfl (put_T rfl _) ?_
   refine EvO.pfield (fo := 2) (m := 0) (o := 2) rfl (ev rfl) rfl rfl rfl (put_T rfl _) ?_
   first | refine EvO.hload hH rfl (ev rfl) (by first | exact at0 | exact at1 | exact at2 | exact at3 | exact at4 | exact at5 | exact at6 | exact at7) rfl (put_T rfl _) ?_ | refine EvO.rload rfl (ev rfl) (by assumption) rfl (put_T rfl _) ?_ | refine EvO.oload hH rfl (ev rfl) (by assumption) (by first | exact at0 | exact at1 | exact at2 | exact at3 | exact at4 | exact at5 | exact at6 | exact at7) (by assumption) rfl (put_T rfl _) ?_
   refine EvO.pfield (fo := 1) (m := 0) (o := 1) rfl (ev rfl) rfl rfl rfl (put_T rfl _) ?_
   first | refine EvO.hload hH rfl (ev rfl) (by first | exact at0 | exact at1 | exact at2 | exact at3 | exact at4 | exact at5 | exact at6 | exact at7) rfl (put_T rfl _) ?_ | refine EvO.rload rfl (ev rfl) (by assumption) rfl (put_T rfl _) ?_ | refine EvO.oload hH rfl (ev rfl) (by assumption) (by first | exact at0 | exact at1 | exact at2 | exact at3 | exact at4 | exact at5 | exact at6 | exact at7) (by assumption) rfl (put_T rfl _) ?_
   refine EvO.hcall rfl rfl (fquery_ev (hH.at at5) (hH.at at7)) (put_T rfl _) ?_
   refine EvO.go rfl rfl rfl (put_T rfl _) ?_
   refine EvO.hstoreA hH rfl (ev rfl) (ev rfl) (by first | rfl | exact (SlD.cells (by assumption)).1 | exact hH.ocells (by first | exact at0 | exact at1 | exact at2 | exact at3 | exact at4 | exact at5 | exact at6 | exact at7) | exact hH.dcells (by first | exact at0 | exact at1 | exact at2 | exact at3 | exact at4 | exact at5 | exact at6 | exact at7) | assumption) (by exact rfl) (by first | exact at0 | exact at1 | exact at2 | exact at3 | exact at4 | exact at5 | exact at6 | exact at7) (by exact rfl) (by first | exact .inl hF | exact .inr rfl | exact .inr (by assumption)) (fun st hH => ?_)
   try dsimp only [List.set_cons_zero,List.set_cons_succ,List.cons_append,List.nil_append,setMany,List.map_cons,List.map_nil,D.cells,Nat.reduceAdd,List.nil_append,stpC] at hH
   refine EvO.nil ?_
   try subst hK
   try change EvC _ _ _ _ _ _
   refine EvC.ret ⟨fun i h => (by cases h),_,_,_,hH.resCell rfl at0 rfl,rfl,?_⟩
   exact ⟨⟨.sl [], .inr rfl,rfl⟩,hH.drop 2⟩
end Go.Proofs.YtopaaegigcfkeaaGreat
namespace Go.Proofs.YtopaaegigcfkeaaGreat
open Go.V Go
def WH (N : Nat) (S : St) (H : List Ent) (kw kF kp : Nat) (st : St) : Prop := ∃ (ky kd kn kl kf kt : Nat) (d2 d3 f1 f4 f6 l1 l3 x : D) (L : List Fy),YOk L /\ Has N S st (.box kw (.mem 0 false [.ptr ky 0 0, .ptr kd 0 0, .ptr kF 0 0]) :: .box kd (.mem 0 false [.ptr kn 0 0,d2,d3]) :: .box kn (.mem 0 false [.nul]) :: .box kF (.mem 0 false [f1, .pnil, .ptr kl 0 0,f4, .ptr kp 0 0,f6]) :: .box kp (.mem 0 false [.nul]) :: .box kl (.mem 0 false [l1, .nul,l3]) :: .box kt (.mem 0 false [.nul]) :: .box ky (.mem 0 false [.ptr kf 0 0, .ptr kt 0 0]) :: .box kf (.mem 0 false [x]) :: .lst x 3 ((fr1 L).map flC) :: (L.map bE ++ H))
theorem WH.nil {N : Nat} {S : St} {H : List Ent} {kw kF kp : Nat} {st : St} (h : WH N S H kw kF kp st) : Has N S st [] := by
 obtain ⟨_,_,_,_,_,_,_,_,_,_,_,_,_,_,_,_,h⟩ := h
 exact h.take 0
theorem do_ev {N : Nat} {S s0 : St} {H : List Ent} {kw kF kp : Nat} {s : Stp} (hs : s.ok) (hk9 : s.kind ≠ 9) (hk7 : s.kind ≠ 7) (hF : S.flr <= N) (hW : WH N S H kw kF kp s0) : ∃ d st',Ev pv 6 [.ptr kw 0 0, .agg (stpC s)] s0 d st' /\ (∃ e a r,NoL r /\ d = .agg [.int .i64 e, .int .i64 a, .nul,r]) /\ ∃ kF' kp',(s.kind = 8 -> kF' = kF /\ kp' = kp) /\ WH N S H kw kF' kp' st' := by
 have hs0 := hs
 obtain ⟨k,n,nm,to,y,b,x0,l,c⟩ := s
 obtain ⟨hy,lb,hx0,ll,ln,lt⟩ := hs
 simp only at hy lb hx0 ll ln lt hk9 hk7
 unfold stpC
 simp only
 have hxc := hx0.cells.1
 have hyc := hy.cells.1
 obtain ⟨ky,kd,kn,kl,kf,kt,d2,d3,f1,f4,f6,l1,l3,x,L,hL,hH⟩ := hW
 refine Ev.mkE rfl fi6 rfl rfl rfl ?_
 dsimp only [List.cons_append,List.nil_append,List.length,Nat.reduceSub,Nat.reduceAdd,List.replicate_succ,List.replicate_zero]
 change EvC _ _ _ _ s0 _
 try change EvC _ _ _ _ _ _
 repeat refine EvC.seq ?_
 try generalize hK : SeqQ _ _ _ _ = K
 refine EvC.reg ?_
 refine EvO.hbox (cs := [.int .i64 k, .int .i64 n, .str nm, .str to,y,x0, .str c]) hH rfl (by rfl) (fun _ => by dsimp only [Fr.put,List.set_cons_succ,List.set_cons_zero] <;> rfl) (fun k3 st hk3 hH => ?_)
 refine EvO.halloc hH rfl rfl (fun _ => by dsimp only [Fr.put,List.set_cons_succ,List.set_cons_zero] <;> rfl) (fun k4 st hk4 hH => ?_)
 try dsimp only [List.set_cons_zero,List.set_cons_succ,List.cons_append,List.nil_append,setMany,List.map_cons,List.map_nil,D.cells,Nat.reduceAdd,List.nil_append,stpC] at hH
 refine EvO.nil ?_
 try subst hK
 try change EvC _ _ _ _ _ _
 try change EvC _ _ _ _ _ _
 repeat refine EvC.seq ?_
 try generalize hK : SeqQ _ _ _ _ = K
 refine EvC.reg ?_
 refine EvO.pfield (fo := 0) (m := 0) (o := 0) rfl (ev rfl) rfl rfl rfl (by dsimp only [Fr.put,List.set_cons_succ,List.set_cons_zero] <;> rfl) ?_
 first | refine EvO.hload hH rfl (ev rfl) (by first | exact at0 | exact at1 | exact at2 | exact at3 | exact at4 | exact at5 | exact at6 | exact at7) rfl (by dsimp only [Fr.put,List.set_cons_succ,List.set_cons_zero] <;> rfl) ?_ | refine EvO.rload rfl (ev rfl) (by assumption) rfl (by dsimp only [Fr.put,List.set_cons_succ,List.set_cons_zero] <;> rfl) ?_ | refine EvO.oload hH rfl (ev rfl) (by assumption) (by first | exact at0 | exact at1 | exact at2 | exact at3 | exact at4 | exact at5 | exact at6 | exact at7) (by assumption) rfl (by dsimp only [Fr.put,List.set_cons_succ,List.set_cons_zero] <;> rfl) ?_
 refine EvO.go rfl rfl rfl (by dsimp only [Fr.put,List.set_cons_succ,List.set_cons_zero] <;> rfl) ?_
 refine EvO.nil ?_
 try subst hK
 try change EvC _ _ _ _ _ _
 try change EvC _ _ _ _ _ _
 repeat refine EvC.seq ?_
 refine EvC.cond (by first | rfl | assumption) (fun h0 => ?_) (fun h0 => ?_) <;> try simp only [decide_eq_true_eq,decide_eq_false_iff_not,beq_iff_eq,beq_eq_false_iff_ne,bne_iff_ne,bne_eq_false_iff_eq,ne_eq,Bool.not_eq_true',Bool.not_eq_false',Bool.not_eq_true,Bool.not_eq_false] at h0
 ·exact absurd h0 hk9
 ·refine EvC.skip ?_
  try change EvC _ _ _ _ _ _
  have hH := Has.rot [_,_,_] [_,_] hH
  try change EvC _ _ _ _ _ _
  repeat refine EvC.seq ?_
  try generalize hK : SeqQ _ _ _ _ = K
  refine EvC.reg ?_
  refine EvO.mv (.inl rfl) rfl (ev rfl) (by dsimp only [Fr.put,List.set_cons_succ,List.set_cons_zero] <;> rfl) ?_
  refine EvO.go rfl rfl rfl (by dsimp only [Fr.put,List.set_cons_succ,List.set_cons_zero] <;> rfl) ?_
  refine EvO.pfield (fo := 1) (m := 0) (o := 1) rfl (ev rfl) rfl rfl rfl (by dsimp only [Fr.put,List.set_cons_succ,List.set_cons_zero] <;> rfl) ?_
  first | refine EvO.hload hH rfl (ev rfl) (by first | exact at0 | exact at1 | exact at2 | exact at3 | exact at4 | exact at5 | exact at6 | exact at7) rfl (by dsimp only [Fr.put,List.set_cons_succ,List.set_cons_zero] <;> rfl) ?_ | refine EvO.rload rfl (ev rfl) (by assumption) rfl (by dsimp only [Fr.put,List.set_cons_succ,List.set_cons_zero] <;> rfl) ?_ | refine EvO.oload hH rfl (ev rfl) (by assumption) (by first | exact at0 | exact at1 | exact at2 | exact at3 | exact at4 | exact at5 | exact at6 | exact at7) (by assumption) rfl (by dsimp only [Fr.put,List.set_cons_succ,List.set_cons_zero] <;> rfl) ?_
  obtain ⟨_,st1,hev,km,hH⟩ := mark_ev hF hH
  refine EvO.hcall rfl rfl hev (by dsimp only [Fr.put,List.set_cons_succ,List.set_cons_zero] <;> rfl) ?_
  refine EvO.nil ?_
  try subst hK
  try change EvC _ _ _ _ _ _
  have hH : Has N S st1 (_ :: _ :: _ :: _ :: _ :: _) := Has.rot [_,_] [_,_,_] (hH.erase 2)
  try change EvC _ _ _ _ _ _
  repeat refine EvC.seq ?_
  try generalize hK : SeqQ _ _ _ _ = K
  refine EvC.reg ?_
  refine EvO.pfield (fo := 0) (m := 0) (o := 0) rfl (ev rfl) rfl rfl rfl (by dsimp only [Fr.put,List.set_cons_succ,List.set_cons_zero] <;> rfl) ?_
  first | refine EvO.hload hH rfl (ev rfl) (by first | exact at0 | exact at1 | exact at2 | exact at3 | exact at4 | exact at5 | exact at6 | exact at7) rfl (by dsimp only [Fr.put,List.set_cons_succ,List.set_cons_zero] <;> rfl) ?_ | refine EvO.rload rfl (ev rfl) (by assumption) rfl (by dsimp only [Fr.put,List.set_cons_succ,List.set_cons_zero] <;> rfl) ?_ | refine EvO.oload hH rfl (ev rfl) (by assumption) (by first | exact at0 | exact at1 | exact at2 | exact at3 | exact at4 | exact at5 | exact at6 | exact at7) (by assumption) rfl (by dsimp only [Fr.put,List.set_cons_succ,List.set_cons_zero] <;> rfl) ?_
  refine EvO.nil ?_
  try subst hK
  try change EvC _ _ _ _ _ _
  try change EvC _ _ _ _ _ _
  repeat refine EvC.seq ?_
  refine EvC.block ?_
  try change EvC _ _ _ _ _ _
  repeat refine EvC.seq ?_
  try generalize hK : SeqQ _ _ _ _ = K
  refine EvC.reg ?_
  refine EvO.go rfl rfl rfl (put_T rfl _) ?_
  refine EvO.mv (.inr rfl) rfl (ev rfl) (put_T rfl _) ?_
  refine EvO.nil ?_
  try subst hK
  try change EvC _ _ _ _ _ _
  try change EvC _ _ _ _ _ _
  repeat refine EvC.seq ?_
  refine EvC.cond (by first | rfl | assumption) (fun h1 => ?_) (fun h1 => ?_) <;> try simp only [decide_eq_true_eq,decide_eq_false_iff_not,beq_iff_eq,beq_eq_false_iff_ne,bne_iff_ne,bne_eq_false_iff_eq,ne_eq,Bool.not_eq_true',Bool.not_eq_false',Bool.not_eq_true,Bool.not_eq_false] at h1
  ·try change EvC _ _ _ _ _ _
   repeat refine EvC.seq ?_
   try generalize hK : SeqQ _ _ _ _ = K
   refine EvC.reg ?_
   refine EvO.mv (.inl rfl) rfl (ev rfl) (put_T rfl _) ?_
   refine EvO.go rfl rfl rfl (put_T rfl _) ?_
   refine EvO.pfield (fo := 0) (m := 0) (o := 0) rfl (ev rfl) rfl rfl rfl (put_T rfl _) ?_
   first | refine EvO.hload hH rfl (ev rfl) (by first | exact at0 | exact at1 | exact at2 | exact at3 | exact at4 | exact at5 | exact at6 | exact at7) rfl (put_T rfl _) ?_ | refine EvO.rload rfl (ev rfl) (by assumption) rfl (put_T rfl _) ?_ | refine EvO.oload hH rfl (ev rfl) (by assumption) (by first | exact at0 | exact at1 | exact at2 | exact at3 | exact at4 | exact at5 | exact at6 | exact at7) (by assumption) rfl (put_T rfl _) ?_
   refine EvO.pfield (fo := 2) (m := 0) (o := 2) rfl (ev rfl) rfl rfl rfl (put_T rfl _) ?_
   first | refine EvO.hload hH rfl (ev rfl) (by first | exact at0 | exact at1 | exact at2 | exact at3 | exact at4 | exact at5 | exact at6 | exact at7) rfl (put_T rfl _) ?_ | refine EvO.rload rfl (ev rfl) (by assumption) rfl (put_T rfl _) ?_ | refine EvO.oload hH rfl (ev rfl) (by assumption) (by first | exact at0 | exact at1 | exact at2 | exact at3 | exact at4 | exact at5 | exact at6 | exact at7) (by assumption) rfl (put_T rfl _) ?_
   obtain ⟨_,st1,hev,⟨e,rfl⟩,hY⟩ := create_ev (nm := nm) hF (yp_front (A := [_,_,_,_,_,_,_,_,_]) hL hH) ln
   obtain ⟨x',L',hL',hH⟩ := yp_back hY
   refine EvO.hcall rfl rfl hev (put_T rfl _) ?_
   refine EvO.go rfl rfl rfl (put_T rfl _) ?_
   refine EvO.hstoreA hH rfl (ev rfl) (ev rfl) (by first | rfl | exact (SlD.cells (by assumption)).1 | exact hH.ocells (by first | exact at0 | exact at1 | exact at2 | exact at3 | exact at4 | exact at5 | exact at6 | exact at7) | exact hH.dcells (by first | exact at0 | exact at1 | exact at2 | exact at3 | exact at4 | exact at5 | exact at6 | exact at7) | assumption) (by exact rfl) (by first | exact at0 | exact at1 | exact at2 | exact at3 | exact at4 | exact at5 | exact at6 | exact at7) (by exact rfl) (by first | exact .inl hF | exact .inr rfl | exact .inr (by assumption)) (fun st hH => ?_)
   try dsimp only [List.set_cons_zero,List.set_cons_succ,List.cons_append,List.nil_append,setMany,List.map_cons,List.map_nil,D.cells,Nat.reduceAdd,List.nil_append,stpC] at hH
   refine EvO.nil ?_
   try subst hK
   try change EvC _ _ _ _ _ _
   refine EvC.ret ⟨fun i h => (by cases h),_,_,_,hH.resCell rfl at0 rfl,rfl,?_⟩
   exact ⟨⟨_,_,_, .inl rfl,rfl⟩,kF,kp,fun _ => ⟨rfl,rfl⟩,_,_,_,_,_,_,_,_,_,_,_,_,_,_,_,hL',hH.drop 2⟩
  ·try change EvC _ _ _ _ _ _
   repeat refine EvC.seq ?_
   try generalize hK : SeqQ _ _ _ _ = K
   refine EvC.reg ?_
   refine EvO.go rfl rfl rfl (put_T rfl _) ?_
   refine EvO.mv (.inr rfl) rfl (ev rfl) (put_T rfl _) ?_
   refine EvO.nil ?_
   try subst hK
   try change EvC _ _ _ _ _ _
   try change EvC _ _ _ _ _ _
   repeat refine EvC.seq ?_
   refine EvC.cond (by first | rfl | assumption) (fun h2 => ?_) (fun h2 => ?_) <;> try simp only [decide_eq_true_eq,decide_eq_false_iff_not,beq_iff_eq,beq_eq_false_iff_ne,bne_iff_ne,bne_eq_false_iff_eq,ne_eq,Bool.not_eq_true',Bool.not_eq_false',Bool.not_eq_true,Bool.not_eq_false] at h2
   ·try change EvC _ _ _ _ _ _
    repeat refine EvC.seq ?_
    try generalize hK : SeqQ _ _ _ _ = K
    refine EvC.reg ?_
    refine EvO.mv (.inl rfl) rfl (ev rfl) (put_T rfl _) ?_
    refine EvO.go rfl rfl rfl (put_T rfl _) ?_
    refine EvO.pfield (fo := 0) (m := 0) (o := 0) rfl (ev rfl) rfl rfl rfl (put_T rfl _) ?_
    first | refine EvO.hload hH rfl (ev rfl) (by first | exact at0 | exact at1 | exact at2 | exact at3 | exact at4 | exact at5 | exact at6 | exact at7) rfl (put_T rfl _) ?_ | refine EvO.rload rfl (ev rfl) (by assumption) rfl (put_T rfl _) ?_ | refine EvO.oload hH rfl (ev rfl) (by assumption) (by first | exact at0 | exact at1 | exact at2 | exact at3 | exact at4 | exact at5 | exact at6 | exact at7) (by assumption) rfl (put_T rfl _) ?_
    refine EvO.pfield (fo := 2) (m := 0) (o := 2) rfl (ev rfl) rfl rfl rfl (put_T rfl _) ?_
    first | refine EvO.hload hH rfl (ev rfl) (by first | exact at0 | exact at1 | exact at2 | exact at3 | exact at4 | exact at5 | exact at6 | exact at7) rfl (put_T rfl _) ?_ | refine EvO.rload rfl (ev rfl) (by assumption) rfl (put_T rfl _) ?_ | refine EvO.oload hH rfl (ev rfl) (by assumption) (by first | exact at0 | exact at1 | exact at2 | exact at3 | exact at4 | exact at5 | exact at6 | exact at7) (by assumption) rfl (put_T rfl _) ?_
    refine EvO.pfield (fo := 4) (m := 0) (o := 4) rfl (ev rfl) rfl rfl rfl (put_T rfl _) ?_
    first | refine EvO.hload hH rfl (ev rfl) (by first | exact at0 | exact at1 | exact at2 | exact at3 | exact at4 | exact at5 | exact at6 | exact at7) rfl (put_T rfl _) ?_ | refine EvO.rload rfl (ev rfl) (by assumption) rfl (put_T rfl _) ?_ | refine EvO.oload hH rfl (ev rfl) (by assumption) (by first | exact at0 | exact at1 | exact at2 | exact at3 | exact at4 | exact at5 | exact at6 | exact at7) (by assumption) rfl (put_T rfl _) ?_
    obtain ⟨_,st1,hev,⟨e,rfl⟩,hY⟩ := append_ev (nm := nm) hF (yp_front (A := [_,_,_,_,_,_,_,_,_]) hL hH) hy lb
    obtain ⟨x',L',hL',hH⟩ := yp_back hY
    refine EvO.hcall rfl rfl hev (put_T rfl _) ?_
    refine EvO.go rfl rfl rfl (put_T rfl _) ?_
    refine EvO.hstoreA hH rfl (ev rfl) (ev rfl) (by first | rfl | exact (SlD.cells (by assumption)).1 | exact hH.ocells (by first | exact at0 | exact at1 | exact at2 | exact at3 | exact at4 | exact at5 | exact at6 | exact at7) | exact hH.dcells (by first | exact at0 | exact at1 | exact at2 | exact at3 | exact at4 | exact at5 | exact at6 | exact at7) | assumption) (by exact rfl) (by first | exact at0 | exact at1 | exact at2 | exact at3 | exact at4 | exact at5 | exact at6 | exact at7) (by exact rfl) (by first | exact .inl hF | exact .inr rfl | exact .inr (by assumption)) (fun st hH => ?_)
    try dsimp only [List.set_cons_zero,List.set_cons_succ,List.cons_append,List.nil_append,setMany,List.map_cons,List.map_nil,D.cells,Nat.reduceAdd,List.nil_append,stpC] at hH
    refine EvO.nil ?_
    try subst hK
    try change EvC _ _ _ _ _ _
    refine EvC.ret ⟨fun i h => (by cases h),_,_,_,hH.resCell rfl at0 rfl,rfl,?_⟩
    exact ⟨⟨_,_,_, .inl rfl,rfl⟩,kF,kp,fun _ => ⟨rfl,rfl⟩,_,_,_,_,_,_,_,_,_,_,_,_,_,_,_,hL',hH.drop 2⟩
   ·try change EvC _ _ _ _ _ _
    repeat refine EvC.seq ?_
    try generalize hK : SeqQ _ _ _ _ = K
    refine EvC.reg ?_
    refine EvO.go rfl rfl rfl (put_T rfl _) ?_
    refine EvO.mv (.inr rfl) rfl (ev rfl) (put_T rfl _) ?_
    refine EvO.nil ?_
    try subst hK
    try change EvC _ _ _ _ _ _
    try change EvC _ _ _ _ _ _
    repeat refine EvC.seq ?_
    refine EvC.cond (by first | rfl | assumption) (fun h3 => ?_) (fun h3 => ?_) <;> try simp only [decide_eq_true_eq,decide_eq_false_iff_not,beq_iff_eq,beq_eq_false_iff_ne,bne_iff_ne,bne_eq_false_iff_eq,ne_eq,Bool.not_eq_true',Bool.not_eq_false',Bool.not_eq_true,Bool.not_eq_false] at h3
    ·try change EvC _ _ _ _ _ _
     repeat refine EvC.seq ?_
     try generalize hK : SeqQ _ _ _ _ = K
     refine EvC.reg ?_
     refine EvO.mv (.inl rfl) rfl (ev rfl) (put_T rfl _) ?_
     refine EvO.go rfl rfl rfl (put_T rfl _) ?_
     refine EvO.pfield (fo := 0) (m := 0) (o := 0) rfl (ev rfl) rfl rfl rfl (put_T rfl _) ?_
     first | refine EvO.hload hH rfl (ev rfl) (by first | exact at0 | exact at1 | exact at2 | exact at3 | exact at4 | exact at5 | exact at6 | exact at7) rfl (put_T rfl _) ?_ | refine EvO.rload rfl (ev rfl) (by assumption) rfl (put_T rfl _) ?_ | refine EvO.oload hH rfl (ev rfl) (by assumption) (by first | exact at0 | exact at1 | exact at2 | exact at3 | exact at4 | exact at5 | exact at6 | exact at7) (by assumption) rfl (put_T rfl _) ?_
     refine EvO.pfield (fo := 2) (m := 0) (o := 2) rfl (ev rfl) rfl rfl rfl (put_T rfl _) ?_
     first | refine EvO.hload hH rfl (ev rfl) (by first | exact at0 | exact at1 | exact at2 | exact at3 | exact at4 | exact at5 | exact at6 | exact at7) rfl (put_T rfl _) ?_ | refine EvO.rload rfl (ev rfl) (by assumption) rfl (put_T rfl _) ?_ | refine EvO.oload hH rfl (ev rfl) (by assumption) (by first | exact at0 | exact at1 | exact at2 | exact at3 | exact at4 | exact at5 | exact at6 | exact at7) (by assumption) rfl (put_T rfl _) ?_
     refine EvO.pfield (fo := 3) (m := 0) (o := 3) rfl (ev rfl) rfl rfl rfl (put_T rfl _) ?_
     first | refine EvO.hload hH rfl (ev rfl) (by first | exact at0 | exact at1 | exact at2 | exact at3 | exact at4 | exact at5 | exact at6 | exact at7) rfl (put_T rfl _) ?_ | refine EvO.rload rfl (ev rfl) (by assumption) rfl (put_T rfl _) ?_ | refine EvO.oload hH rfl (ev rfl) (by assumption) (by first | exact at0 | exact at1 | exact at2 | exact at3 | exact at4 | exact at5 | exact at6 | exact at7) (by assumption) rfl (put_T rfl _) ?_
     obtain ⟨_,st1,hev,⟨e,rfl⟩,hY⟩ := rename_ev (nm := nm) (to := to) hF (yp_front (A := [_,_,_,_,_,_,_,_,_]) hL hH) lt
     obtain ⟨x',L',hL',hH⟩ := yp_back hY
     refine EvO.hcall rfl rfl hev (put_T rfl _) ?_
     refine EvO.go rfl rfl rfl (put_T rfl _) ?_
     refine EvO.hstoreA hH rfl (ev rfl) (ev rfl) (by first | rfl | exact (SlD.cells (by assumption)).1 | exact hH.ocells (by first | exact at0 | exact at1 | exact at2 | exact at3 | exact at4 | exact at5 | exact at6 | exact at7) | exact hH.dcells (by first | exact at0 | exact at1 | exact at2 | exact at3 | exact at4 | exact at5 | exact at6 | exact at7) | assumption) (by exact rfl) (by first | exact at0 | exact at1 | exact at2 | exact at3 | exact at4 | exact at5 | exact at6 | exact at7) (by exact rfl) (by first | exact .inl hF | exact .inr rfl | exact .inr (by assumption)) (fun st hH => ?_)
     try dsimp only [List.set_cons_zero,List.set_cons_succ,List.cons_append,List.nil_append,setMany,List.map_cons,List.map_nil,D.cells,Nat.reduceAdd,List.nil_append,stpC] at hH
     refine EvO.nil ?_
     try subst hK
     try change EvC _ _ _ _ _ _
     refine EvC.ret ⟨fun i h => (by cases h),_,_,_,hH.resCell rfl at0 rfl,rfl,?_⟩
     exact ⟨⟨_,_,_, .inl rfl,rfl⟩,kF,kp,fun _ => ⟨rfl,rfl⟩,_,_,_,_,_,_,_,_,_,_,_,_,_,_,_,hL',hH.drop 2⟩
    ·try change EvC _ _ _ _ _ _
     repeat refine EvC.seq ?_
     try generalize hK : SeqQ _ _ _ _ = K
     refine EvC.reg ?_
     refine EvO.go rfl rfl rfl (put_T rfl _) ?_
     refine EvO.mv (.inr rfl) rfl (ev rfl) (put_T rfl _) ?_
     refine EvO.nil ?_
     try subst hK
     try change EvC _ _ _ _ _ _
     try change EvC _ _ _ _ _ _
     repeat refine EvC.seq ?_
     refine EvC.cond (by first | rfl | assumption) (fun h4 => ?_) (fun h4 => ?_) <;> try simp only [decide_eq_true_eq,decide_eq_false_iff_not,beq_iff_eq,beq_eq_false_iff_ne,bne_iff_ne,bne_eq_false_iff_eq,ne_eq,Bool.not_eq_true',Bool.not_eq_false',Bool.not_eq_true,Bool.not_eq_false] at h4
     ·try change EvC _ _ _ _ _ _
      repeat refine EvC.seq ?_
      try generalize hK : SeqQ _ _ _ _ = K
      refine EvC.reg ?_
      refine EvO.mv (.inl rfl) rfl (ev rfl) (put_T rfl _) ?_
      refine EvO.go rfl rfl rfl (put_T rfl _) ?_
      refine EvO.pfield (fo := 0) (m := 0) (o := 0) rfl (ev rfl) rfl rfl rfl (put_T rfl _) ?_
      first | refine EvO.hload hH rfl (ev rfl) (by first | exact at0 | exact at1 | exact at2 | exact at3 | exact at4 | exact at5 | exact at6 | exact at7) rfl (put_T rfl _) ?_ | refine EvO.rload rfl (ev rfl) (by assumption) rfl (put_T rfl _) ?_ | refine EvO.oload hH rfl (ev rfl) (by assumption) (by first | exact at0 | exact at1 | exact at2 | exact at3 | exact at4 | exact at5 | exact at6 | exact at7) (by assumption) rfl (put_T rfl _) ?_
      refine EvO.pfield (fo := 2) (m := 0) (o := 2) rfl (ev rfl) rfl rfl rfl (put_T rfl _) ?_
      first | refine EvO.hload hH rfl (ev rfl) (by first | exact at0 | exact at1 | exact at2 | exact at3 | exact at4 | exact at5 | exact at6 | exact at7) rfl (put_T rfl _) ?_ | refine EvO.rload rfl (ev rfl) (by assumption) rfl (put_T rfl _) ?_ | refine EvO.oload hH rfl (ev rfl) (by assumption) (by first | exact at0 | exact at1 | exact at2 | exact at3 | exact at4 | exact at5 | exact at6 | exact at7) (by assumption) rfl (put_T rfl _) ?_
      refine EvO.pfield (fo := 1) (m := 0) (o := 1) rfl (ev rfl) rfl rfl rfl (put_T rfl _) ?_
      first | refine EvO.hload hH rfl (ev rfl) (by first | exact at0 | exact at1 | exact at2 | exact at3 | exact at4 | exact at5 | exact at6 | exact at7) rfl (put_T rfl _) ?_ | refine EvO.rload rfl (ev rfl) (by assumption) rfl (put_T rfl _) ?_ | refine EvO.oload hH rfl (ev rfl) (by assumption) (by first | exact at0 | exact at1 | exact at2 | exact at3 | exact at4 | exact at5 | exact at6 | exact at7) (by assumption) rfl (put_T rfl _) ?_
      obtain ⟨_,st1,hev,⟨e,rfl⟩,hY⟩ := ycut_ev (nm := nm) (n := n) hF (yp_front (A := [_,_,_,_,_,_,_,_,_]) hL hH)
      obtain ⟨x',L',hL',hH⟩ := yp_back hY
      refine EvO.hcall rfl rfl hev (put_T rfl _) ?_
      refine EvO.go rfl rfl rfl (put_T rfl _) ?_
      refine EvO.hstoreA hH rfl (ev rfl) (ev rfl) (by first | rfl | exact (SlD.cells (by assumption)).1 | exact hH.ocells (by first | exact at0 | exact at1 | exact at2 | exact at3 | exact at4 | exact at5 | exact at6 | exact at7) | exact hH.dcells (by first | exact at0 | exact at1 | exact at2 | exact at3 | exact at4 | exact at5 | exact at6 | exact at7) | assumption) (by exact rfl) (by first | exact at0 | exact at1 | exact at2 | exact at3 | exact at4 | exact at5 | exact at6 | exact at7) (by exact rfl) (by first | exact .inl hF | exact .inr rfl | exact .inr (by assumption)) (fun st hH => ?_)
      try dsimp only [List.set_cons_zero,List.set_cons_succ,List.cons_append,List.nil_append,setMany,List.map_cons,List.map_nil,D.cells,Nat.reduceAdd,List.nil_append,stpC] at hH
      refine EvO.nil ?_
      try subst hK
      try change EvC _ _ _ _ _ _
      refine EvC.ret ⟨fun i h => (by cases h),_,_,_,hH.resCell rfl at0 rfl,rfl,?_⟩
      exact ⟨⟨_,_,_, .inl rfl,rfl⟩,kF,kp,fun _ => ⟨rfl,rfl⟩,_,_,_,_,_,_,_,_,_,_,_,_,_,_,_,hL',hH.drop 2⟩
     ·try change EvC _ _ _ _ _ _
      repeat refine EvC.seq ?_
      try generalize hK : SeqQ _ _ _ _ = K
      refine EvC.reg ?_
      refine EvO.go rfl rfl rfl (put_T rfl _) ?_
      refine EvO.mv (.inr rfl) rfl (ev rfl) (put_T rfl _) ?_
      refine EvO.nil ?_
      try subst hK
      try change EvC _ _ _ _ _ _
      try change EvC _ _ _ _ _ _
      repeat refine EvC.seq ?_
      refine EvC.cond (by first | rfl | assumption) (fun h5 => ?_) (fun h5 => ?_) <;> try simp only [decide_eq_true_eq,decide_eq_false_iff_not,beq_iff_eq,beq_eq_false_iff_ne,bne_iff_ne,bne_eq_false_iff_eq,ne_eq,Bool.not_eq_true',Bool.not_eq_false',Bool.not_eq_true,Bool.not_eq_false] at h5
      ·try change EvC _ _ _ _ _ _
       repeat refine EvC.seq ?_
       try generalize hK : SeqQ _ _ _ _ = K
       refine EvC.reg ?_
       refine EvO.mv (.inl rfl) rfl (ev rfl) (put_T rfl _) ?_
       refine EvO.go rfl rfl rfl (put_T rfl _) ?_
       refine EvO.pfield (fo := 0) (m := 0) (o := 0) rfl (ev rfl) rfl rfl rfl (put_T rfl _) ?_
       first | refine EvO.hload hH rfl (ev rfl) (by first | exact at0 | exact at1 | exact at2 | exact at3 | exact at4 | exact at5 | exact at6 | exact at7) rfl (put_T rfl _) ?_ | refine EvO.rload rfl (ev rfl) (by assumption) rfl (put_T rfl _) ?_ | refine EvO.oload hH rfl (ev rfl) (by assumption) (by first | exact at0 | exact at1 | exact at2 | exact at3 | exact at4 | exact at5 | exact at6 | exact at7) (by assumption) rfl (put_T rfl _) ?_
       refine EvO.pfield (fo := 2) (m := 0) (o := 2) rfl (ev rfl) rfl rfl rfl (put_T rfl _) ?_
       first | refine EvO.hload hH rfl (ev rfl) (by first | exact at0 | exact at1 | exact at2 | exact at3 | exact at4 | exact at5 | exact at6 | exact at7) rfl (put_T rfl _) ?_ | refine EvO.rload rfl (ev rfl) (by assumption) rfl (put_T rfl _) ?_ | refine EvO.oload hH rfl (ev rfl) (by assumption) (by first | exact at0 | exact at1 | exact at2 | exact at3 | exact at4 | exact at5 | exact at6 | exact at7) (by assumption) rfl (put_T rfl _) ?_
       obtain ⟨_,st1,hev,⟨e,rfl⟩,hY⟩ := remove_ev (nm := nm) hF (yp_front (A := [_,_,_,_,_,_,_,_,_]) hL hH)
       obtain ⟨x',L',hL',hH⟩ := yp_back hY
       refine EvO.hcall rfl rfl hev (put_T rfl _) ?_
       refine EvO.go rfl rfl rfl (put_T rfl _) ?_
       refine EvO.hstoreA hH rfl (ev rfl) (ev rfl) (by first | rfl | exact (SlD.cells (by assumption)).1 | exact hH.ocells (by first | exact at0 | exact at1 | exact at2 | exact at3 | exact at4 | exact at5 | exact at6 | exact at7) | exact hH.dcells (by first | exact at0 | exact at1 | exact at2 | exact at3 | exact at4 | exact at5 | exact at6 | exact at7) | assumption) (by exact rfl) (by first | exact at0 | exact at1 | exact at2 | exact at3 | exact at4 | exact at5 | exact at6 | exact at7) (by exact rfl) (by first | exact .inl hF | exact .inr rfl | exact .inr (by assumption)) (fun st hH => ?_)
       try dsimp only [List.set_cons_zero,List.set_cons_succ,List.cons_append,List.nil_append,setMany,List.map_cons,List.map_nil,D.cells,Nat.reduceAdd,List.nil_append,stpC] at hH
       refine EvO.nil ?_
       try subst hK
       try change EvC _ _ _ _ _ _
       refine EvC.ret ⟨fun i h => (by cases h),_,_,_,hH.resCell rfl at0 rfl,rfl,?_⟩
       exact ⟨⟨_,_,_, .inl rfl,rfl⟩,kF,kp,fun _ => ⟨rfl,rfl⟩,_,_,_,_,_,_,_,_,_,_,_,_,_,_,_,hL',hH.drop 2⟩
      ·try change EvC _ _ _ _ _ _
       repeat refine EvC.seq ?_
       try generalize hK : SeqQ _ _ _ _ = K
       refine EvC.reg ?_
       refine EvO.go rfl rfl rfl (put_T rfl _) ?_
       refine EvO.mv (.inr rfl) rfl (ev rfl) (put_T rfl _) ?_
       refine EvO.nil ?_
       try subst hK
       try change EvC _ _ _ _ _ _
       try change EvC _ _ _ _ _ _
       repeat refine EvC.seq ?_
       refine EvC.cond (by first | rfl | assumption) (fun h6 => ?_) (fun h6 => ?_) <;> try simp only [decide_eq_true_eq,decide_eq_false_iff_not,beq_iff_eq,beq_eq_false_iff_ne,bne_iff_ne,bne_eq_false_iff_eq,ne_eq,Bool.not_eq_true',Bool.not_eq_false',Bool.not_eq_true,Bool.not_eq_false] at h6
       ·subst h6
        refine EvC.skip ?_
        try change EvC _ _ _ _ _ _
        try change EvC _ _ _ _ _ _
        repeat refine EvC.seq ?_
        refine EvC.cond (v := true) (by first | assumption | (dsimp only [Fr.ev,Fr.get,nth,Go.V.look]; rfl)) (fun _ => ?_) (fun h => by cases h)
        try change EvC _ _ _ _ _ _
        have hH : Has N S st1 (_ :: _ :: _ :: _ :: _ :: _ :: _ :: _ :: _) := Has.rot [_,_] [_,_,_,_,_,_] hH
        try change EvC _ _ _ _ _ _
        repeat refine EvC.seq ?_
        try generalize hK : SeqQ _ _ _ _ = K
        refine EvC.reg ?_
        refine EvO.mv (.inl rfl) rfl (ev rfl) (put_T rfl _) ?_
        first | refine EvO.hloadS (m := 7) hH rfl (ev rfl) (by first | exact at0 | exact at1 | exact at2 | exact at3 | exact at4 | exact at5 | exact at6 | exact at7) (by dsimp only [List.drop_succ_cons,List.drop_zero,List.take_succ_cons,List.take_zero,stpC] <;> rfl) rfl rfl (put_T rfl _) ?_ | refine EvO.rload rfl (ev rfl) (by assumption) rfl (put_T rfl _) ?_ | refine EvO.oload hH rfl (ev rfl) (by assumption) (by first | exact at0 | exact at1 | exact at2 | exact at3 | exact at4 | exact at5 | exact at6 | exact at7) (by assumption) rfl (put_T rfl _) ?_
        obtain ⟨_,st1,hev,⟨r,hr,rfl⟩,hH⟩ := asked_ev hs0 hk7 hF hH
        refine EvO.hcall rfl rfl hev (put_T rfl _) ?_
        refine EvO.hstoreA hH rfl (ev rfl) (ev rfl) (by first | rfl | exact (SlD.cells (by assumption)).1 | exact hH.ocells (by first | exact at0 | exact at1 | exact at2 | exact at3 | exact at4 | exact at5 | exact at6 | exact at7) | exact hH.dcells (by first | exact at0 | exact at1 | exact at2 | exact at3 | exact at4 | exact at5 | exact at6 | exact at7) | assumption) (by exact rfl) (by first | exact at0 | exact at1 | exact at2 | exact at3 | exact at4 | exact at5 | exact at6 | exact at7) (by exact rfl) (by first | exact .inl hF | exact .inr rfl | exact .inr (by assumption)) (fun st hH => ?_)
        try dsimp only [List.set_cons_zero,List.set_cons_succ,List.cons_append,List.nil_append,setMany,List.map_cons,List.map_nil,D.cells,Nat.reduceAdd,List.nil_append,stpC] at hH
        refine EvO.nil ?_
        try subst hK
        try change EvC _ _ _ _ _ _
        refine EvC.ret ⟨fun i h => (by cases h),_,_,_,hH.resCell rfl at6 rfl,rfl,?_⟩
        exact ⟨⟨_,_,r,hr,rfl⟩,kF,kp,fun _ => ⟨rfl,rfl⟩,_,_,_,_,_,_,_,_,_,_,_,_,_,_,_,hL,(hH.erase 6).erase 6⟩
       ·try change EvC _ _ _ _ _ _
        repeat refine EvC.seq ?_
        try generalize hK : SeqQ _ _ _ _ = K
        refine EvC.reg ?_
        refine EvO.go rfl rfl rfl (put_T rfl _) ?_
        refine EvO.mv (.inr rfl) rfl (ev rfl) (put_T rfl _) ?_
        refine EvO.nil ?_
        try subst hK
        try change EvC _ _ _ _ _ _
        try change EvC _ _ _ _ _ _
        repeat refine EvC.seq ?_
        refine EvC.cond (by first | rfl | assumption) (fun h7 => ?_) (fun h7 => ?_) <;> try simp only [decide_eq_true_eq,decide_eq_false_iff_not,beq_iff_eq,beq_eq_false_iff_ne,bne_iff_ne,bne_eq_false_iff_eq,ne_eq,Bool.not_eq_true',Bool.not_eq_false',Bool.not_eq_true,Bool.not_eq_false] at h7
        ·exact absurd h7 hk7
        ·try change EvC _ _ _ _ _ _
         repeat refine EvC.seq ?_
         try generalize hK : SeqQ _ _ _ _ = K
         refine EvC.reg ?_
         refine EvO.go rfl rfl rfl (put_T rfl _) ?_
         refine EvO.mv (.inr rfl) rfl (ev rfl) (put_T rfl _) ?_
         refine EvO.nil ?_
         try subst hK
         try change EvC _ _ _ _ _ _
         by_cases h8 : k = 8
         ·subst h8
          try change EvC _ _ _ _ _ _
          repeat refine EvC.seq ?_
          refine EvC.cond (v := true) (by first | assumption | (dsimp only [Fr.ev,Fr.get,nth,Go.V.look]; rfl)) (fun _ => ?_) (fun h => by cases h)
          try change EvC _ _ _ _ _ _
          have hH : Has N S st1 (_ :: _ :: _ :: _ :: _ :: _ :: _ :: _ :: _) := Has.rot [_,_] [_,_,_,_,_,_] hH
          try change EvC _ _ _ _ _ _
          repeat refine EvC.seq ?_
          try generalize hK : SeqQ _ _ _ _ = K
          refine EvC.reg ?_
          refine EvO.mv (.inl rfl) rfl (ev rfl) (put_T rfl _) ?_
          first | refine EvO.hloadS (m := 7) hH rfl (ev rfl) (by first | exact at0 | exact at1 | exact at2 | exact at3 | exact at4 | exact at5 | exact at6 | exact at7) (by dsimp only [List.drop_succ_cons,List.drop_zero,List.take_succ_cons,List.take_zero,stpC] <;> rfl) rfl rfl (put_T rfl _) ?_ | refine EvO.rload rfl (ev rfl) (by assumption) rfl (put_T rfl _) ?_ | refine EvO.oload hH rfl (ev rfl) (by assumption) (by first | exact at0 | exact at1 | exact at2 | exact at3 | exact at4 | exact at5 | exact at6 | exact at7) (by assumption) rfl (put_T rfl _) ?_
          obtain ⟨_,st1,hev,⟨r,hr,rfl⟩,hH⟩ := asked_ev hs0 hk7 hF hH
          refine EvO.hcall rfl rfl hev (put_T rfl _) ?_
          refine EvO.hstoreA hH rfl (ev rfl) (ev rfl) (by first | rfl | exact (SlD.cells (by assumption)).1 | exact hH.ocells (by first | exact at0 | exact at1 | exact at2 | exact at3 | exact at4 | exact at5 | exact at6 | exact at7) | exact hH.dcells (by first | exact at0 | exact at1 | exact at2 | exact at3 | exact at4 | exact at5 | exact at6 | exact at7) | assumption) (by exact rfl) (by first | exact at0 | exact at1 | exact at2 | exact at3 | exact at4 | exact at5 | exact at6 | exact at7) (by exact rfl) (by first | exact .inl hF | exact .inr rfl | exact .inr (by assumption)) (fun st hH => ?_)
          try dsimp only [List.set_cons_zero,List.set_cons_succ,List.cons_append,List.nil_append,setMany,List.map_cons,List.map_nil,D.cells,Nat.reduceAdd,List.nil_append,stpC] at hH
          refine EvO.nil ?_
          try subst hK
          try change EvC _ _ _ _ _ _
          refine EvC.ret ⟨fun i h => (by cases h),_,_,_,hH.resCell rfl at6 rfl,rfl,?_⟩
          exact ⟨⟨_,_,r,hr,rfl⟩,kF,kp,fun _ => ⟨rfl,rfl⟩,_,_,_,_,_,_,_,_,_,_,_,_,_,_,_,hL,(hH.erase 6).erase 6⟩
         ·try change EvC _ _ _ _ _ _
          repeat refine EvC.seq ?_
          refine EvC.cond (v := false) (by first | assumption | (dsimp only [Fr.ev,Fr.get,nth,Go.V.look]; simp [h8])) (fun h => by cases h) (fun _ => ?_)
          try change EvC _ _ _ _ _ _
          try change EvC _ _ _ _ _ _
          repeat refine EvC.seq ?_
          try generalize hK : SeqQ _ _ _ _ = K
          refine EvC.reg ?_
          refine EvO.go rfl rfl rfl (put_T rfl _) ?_
          refine EvO.mv (.inr rfl) rfl (ev rfl) (put_T rfl _) ?_
          refine EvO.nil ?_
          try subst hK
          try change EvC _ _ _ _ _ _
          try change EvC _ _ _ _ _ _
          repeat refine EvC.seq ?_
          refine EvC.cond (by first | rfl | assumption) (fun h10 => ?_) (fun h10 => ?_) <;> try simp only [decide_eq_true_eq,decide_eq_false_iff_not,beq_iff_eq,beq_eq_false_iff_ne,bne_iff_ne,bne_eq_false_iff_eq,ne_eq,Bool.not_eq_true',Bool.not_eq_false',Bool.not_eq_true,Bool.not_eq_false] at h10
          ·have hH : Has N S st1 (_ :: _ :: _ :: _ :: _ :: _) := Has.rot [_,_] [_,_,_] hH
           try change EvC _ _ _ _ _ _
           repeat refine EvC.seq ?_
           try generalize hK : SeqQ _ _ _ _ = K
           refine EvC.reg ?_
           refine EvO.mv (.inl rfl) rfl (ev rfl) (put_T rfl _) ?_
           obtain ⟨_,st1,hev,kF',kl',km',kj,ks,kp',ka,rfl,hH⟩ := wopen_ev hF hH
           have hH : Has N S st1 (_ :: _ :: _ :: _ :: _ :: _ :: _ :: _ :: _) := ((hH.erase 8).erase 3).erase 2
           refine EvO.hcall rfl rfl hev (put_T rfl _) ?_
           refine EvO.hstoreA hH rfl (ev rfl) (ev rfl) (by first | rfl | exact (SlD.cells (by assumption)).1 | exact hH.ocells (by first | exact at0 | exact at1 | exact at2 | exact at3 | exact at4 | exact at5 | exact at6 | exact at7) | exact hH.dcells (by first | exact at0 | exact at1 | exact at2 | exact at3 | exact at4 | exact at5 | exact at6 | exact at7) | assumption) (by exact rfl) (by first | exact at0 | exact at1 | exact at2 | exact at3 | exact at4 | exact at5 | exact at6 | exact at7) (by exact rfl) (by first | exact .inl hF | exact .inr rfl | exact .inr (by assumption)) (fun st hH => ?_)
           try dsimp only [List.set_cons_zero,List.set_cons_succ,List.cons_append,List.nil_append,setMany,List.map_cons,List.map_nil,D.cells,Nat.reduceAdd,List.nil_append,stpC] at hH
           refine EvO.nil ?_
           try subst hK
           try change EvC _ _ _ _ _ _
           refine EvC.ret ⟨fun i h => (by cases h),_,_,_,hH.resCell rfl at6 rfl,rfl,?_⟩
           have hH : Has N S st (_ :: _ :: _ :: _ :: _ :: _) := ((((hH.erase 6).erase 6).erase 6).erase 6).erase 6
           exact ⟨⟨_,_,_, .inl rfl,rfl⟩,kF',kp',fun h => absurd h h8,ky,kd,kn,_,kf,kt,_,_,_,_,_,_,_,_,_,hL,Has.rot [_,_] [_] (Has.rot [_,_,_] [_,_] hH)⟩
          ·refine EvC.skip ?_
           try change EvC _ _ _ _ _ _
           try change EvC _ _ _ _ _ _
           repeat refine EvC.seq ?_
           try generalize hK : SeqQ _ _ _ _ = K
           refine EvC.reg ?_
           refine EvO.go rfl rfl rfl (put_T rfl _) ?_
           refine EvO.hstoreA hH rfl (ev rfl) (ev rfl) (by first | rfl | exact (SlD.cells (by assumption)).1 | exact hH.ocells (by first | exact at0 | exact at1 | exact at2 | exact at3 | exact at4 | exact at5 | exact at6 | exact at7) | exact hH.dcells (by first | exact at0 | exact at1 | exact at2 | exact at3 | exact at4 | exact at5 | exact at6 | exact at7) | assumption) (by exact rfl) (by first | exact at0 | exact at1 | exact at2 | exact at3 | exact at4 | exact at5 | exact at6 | exact at7) (by exact rfl) (by first | exact .inl hF | exact .inr rfl | exact .inr (by assumption)) (fun st hH => ?_)
           try dsimp only [List.set_cons_zero,List.set_cons_succ,List.cons_append,List.nil_append,setMany,List.map_cons,List.map_nil,D.cells,Nat.reduceAdd,List.nil_append,stpC] at hH
           refine EvO.nil ?_
           try subst hK
           try change EvC _ _ _ _ _ _
           refine EvC.ret ⟨fun i h => (by cases h),_,_,_,hH.resCell rfl at0 rfl,rfl,?_⟩
           exact ⟨⟨_,_,_, .inl rfl,rfl⟩,kF,kp,fun _ => ⟨rfl,rfl⟩,_,_,_,_,_,_,_,_,_,_,_,_,_,_,_,hL,hH.drop 2⟩
end Go.Proofs.YtopaaegigcfkeaaGreat
