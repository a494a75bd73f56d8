/- own -/
import Derived.Test.YtnleclohocdkaaaPGJj
import Derived.Test.YtnleclohocdkaaaPGQe
import Derived.Test.YtnleclohocdkaaaPGEg
import Derived.Test.YtnleclohocdkaaaPM2
import Derived.DataReads
import Derived.ChangeOld
import GoSem.ClaimChange
import Derived.Below
import Derived.Test.YtnleclohocdkaaaRows
import Derived.Test.YtnleclohocdkaaaPGGa
set_option maxRecDepth 100000
set_option maxHeartbeats 4000000
set_option linter.unusedSimpArgs false
set_option linter.unusedVariables false
set_option linter.unusedSectionVars false
set_option linter.unnecessarySimpa false
namespace Go.Proofs.Ytnleclohocdkaaa
open Go.V Go
structure Pg.okR (st : St) (p : Pg) : Prop where
 c : V.Rows st 4 p.cd (p.code.map insC)
 s : V.Rows st 1 p.sd (p.starts.map intC)
 i : ∀ x ∈ p.code,V.Rows st 2 x.rd (x.rs.map rangeC) /\ x.rs.length <= 1048576
 cl : p.code.length <= 1048576
 sl : p.starts.length <= 1048576
theorem Pg.okR.to {s0 S st : St} {H : List Ent} {p : Pg} (h : p.okR s0) (hS : S.bs = s0.bs) (hH : Has s0.bs.length S st H) : p.okR st :=
 ⟨(Arg.of h.c hS).rows hH,(Arg.of h.s hS).rows hH,fun x hx => ⟨(Arg.of (h.i x hx).1 hS).rows hH,(h.i x hx).2⟩,h.cl,h.sl⟩
def ixF_Qu (fr : Go.V.Fr) (k : Nat) : Go.V.D := Go.V.nth .junk fr.loc k
theorem slBoxC {x : D} {s : Nat} {es : List (List D)} (h : SlD x s es) : x.box? = none := by
 rcases h with ⟨rfl,_⟩ | ⟨ds,rfl,_⟩ <;> rfl
def cpC (n : Nod) : List D := nodC (cpN n)
theorem copyNodes_ev {s0 : St} {x : Nl} (hx : x.ok) : Ev pv 19 [x.d] s0 (nlD (x.l.map cpN)) s0 := by
 have h0 : (x.l.map cpN).map nodC = x.l.map cpC := by rw [List.map_map]; rfl
 unfold nlD;rw [h0];refine Ev.mk1 rfl fi19 rfl rfl rfl ?_;dsimp only [u3,u4,List.length,Nat.reduceSub,Nat.reduceAdd,w1,w2];obtain ⟨hSb,hF,hH⟩ := ri s0;generalize enterSt .ro s0 = S at *;have hc := hx.c.arg s0.bs.length S;have hlen := hx.nl;refine qq ?_;refine qj fun K hK => ?_;refine qm ?_;refine qe hK ?_;refine qq ?_;refine qj fun K hK => ?_;refine qm ?_;refine qe hK ?_;refine qq ?_;refine qq ?_;refine qj fun K hK => ?_;refine qm ?_;refine qe hK ?_;have hH := Has.nulD (bb := true) hH 7;refine EvC.block ?_;refine EvC.loop (fun mm fr st => ∃ (i : Nat) (y : D) (ks : Nat -> Prop),fr.clean = ⟨6, [x.d,ixF_Qu fr 1,ixF_Qu fr 2,y, .int .i64 (i : Nat),ixF_Qu fr 5], []⟩ /\ Has s0.bs.length S st [.deep ks y 7 ((x.l.take i).map cpC)] /\ (i + mm = x.l.length)) (x.l.length) ?_ ?_
 ·exact ⟨0, .nul,_,rfl,hH,by omega⟩
 rintro mm fr st ⟨i,y,ks,hfr,hH,hi⟩;rw [hfr];clear hfr;generalize ixF_Qu fr = ee;clear fr;refine qq ?_;refine qq ?_;refine qj fun K hK => ?_;refine qm ?_;refine qm ?_;refine qn ?_;simp only [List.length_map];refine qg ?_;refine qe hK ?_;refine EvC.cond (by rfl) (fun h1 => ?_) (fun h1 => ?_) <;> try simp only [decide_eq_true_eq,decide_eq_false_iff_not] at h1
 ·refine EvC.skip ?_
  obtain ⟨q,hq⟩ : ∃ q,x.l[i]? = some q := ⟨x.l[i]'(by omega),List.getElem?_eq_getElem _⟩
  have hr := nod_get hq;have hqo := hx.i q (List.mem_of_getElem? hq);have hrd := hqo.1;have hra := hqo.1.arg s0.bs.length S;have hrl := hqo.2.1;have htl : ((x.l.take i).map cpC).length <= 1048576 := by rw [List.length_map,List.length_take]; omega
  refine qq ?_;refine EvC.block ?_;refine qq ?_;refine qj fun K hK => ?_;refine qm ?_;refine qm ?_;refine qr fun p14 hp14 => ?_;refine EvO.rloadS rfl (ev rfl) (by assumption) rfl (put_T rfl _) ?_;refine qa hH fun k5 st hk5 hH => ?_;refine qS hH at0 fun st hH => ?_;dsimp only [u2,u1,u3,u4,setMany,u5,u6,D.cells,Nat.reduceAdd,nodC] at hH;refine qe hK ?_;refine qq ?_;refine qj fun K hK => ?_;refine EvO.hlist0 (s := 2) hH rfl rfl rfl rfl rfl (fun _ => (put_T rfl _)) (fun k16 st hk16 hH => ?_);refine qm ?_;refine qm ?_;refine qr fun p19 hp19 => ?_;refine qf (fo := 1) fun p20 hp20 => ?_;refine qR ?_;refine EvO.happend (s := 2) hH rfl (ev rfl) (ev rfl) (by exact at0) (by exact Arg.rows (by assumption) hH) rfl rfl rfl rfl rfl rfl rfl ⟨(Nat.le_of_ble_eq_true rfl),(Nat.le_of_ble_eq_true rfl)⟩ (fun _ => (put_T rfl _)) (by simp only [List.length_nil,List.length_map] <;> omega) (by exact .inl hF) (fun x22 st hH => ?_);dsimp only [u2,u1,u3,u4,setMany,u5,u6,D.cells,Nat.reduceAdd,nodC] at hH;refine qp (o := 1) ?_;refine qT hH at1 (fun st hH => ?_) (hcs := hH.ocells at0);dsimp only [u2,u1,u3,u4,setMany,u5,u6,D.cells,Nat.reduceAdd,nodC] at hH;refine qe hK ?_;refine qj fun K hK => ?_;refine qm ?_;refine EvO.hloadS (m := 7) hH rfl (ev rfl) (by exact at1) (by dsimp only [List.drop_succ_cons,List.drop_zero,List.take_succ_cons,List.take_zero,nodC] <;> rfl) rfl rfl (put_T rfl _) ?_;refine qh (s := 7) (vs := [_]) hH fun k26 st hk26 hH => ?_;obtain ⟨hH,hdc⟩ := hH.absorb (i := 1) (j := 3) (by decide) at1 at3 (range_plain _);dsimp only [u1,u2] at hH;refine EvO.dappend hH rfl rfl rfl at3 (hH.rows at0) (.cons (.cons (.plain _ rfl) (.cons hdc (.cons (.plain _ rfl) (.cons (.plain _ rfl) (.cons (.plain _ rfl) (.cons (.plain _ rfl) (.cons (.plain _ rfl) .nil))))))) .nil) rfl rfl rfl rfl rfl rfl rfl ⟨(Nat.le_of_ble_eq_true rfl),(Nat.le_of_ble_eq_true rfl)⟩ (fun _ => (put_T rfl _)) (by show _ + 1 <= _; omega) (.inl hF) (fun x27 st hH => ?_);dsimp only [u1,u2] at hH;refine qm ?_;refine qe hK ?_;refine qj fun K hK => ?_;refine qm ?_;refine EvO.addZ (z := ((i + 1 : Nat) : Int)) rfl (ev rfl) (ev rfl) (by (try simp only [List.length_reverse,List.length_cons,List.length_nil,List.length_append,List.length_map,List.length_set]); rw [wrap_i64 (by omega) (by omega)] <;> omega) (put_T rfl _) ?_;refine qm ?_;refine qe hK ?_;exact ⟨mm - 1,by omega,⟨i + 1,x27,_,rfl,(by rw [List.take_add_one,hq,Option.toList_some,List.map_append]; have h9 := hH.drop 3; rw [rangesV_el] at h9; exact h9),by omega⟩⟩
 ·refine EvC.exit ?_;refine qq ?_;refine qj fun K hK => ?_;refine qm ?_;refine qm ?_;refine qe hK ?_;rw [List.take_of_length_le (by omega)] at hH;refine EvC.ret ⟨rx,_,rfl,rl hSb hH ((hH.freezeDp at0 (by decide)))⟩
theorem nodesCp_ev {s0 : St} {x : Nl} {y : D} (hx : x.ok) (hy : SlD y 7 ((x.l.map cpN).map nodC)) : Ev pv 22 [x.d,y] s0 (.bool true) s0 := by
 have hln := hx.nl;have hyl : ((x.l.map cpN).map nodC).length = x.l.length := by rw [List.length_map,List.length_map]
 refine Ev.mk1 rfl fi22 rfl rfl rfl ?_;dsimp only [u3,u4,List.length,Nat.reduceSub,Nat.reduceAdd,w1,w2];obtain ⟨hSb,hF,hH⟩ := ri s0;generalize enterSt .ro s0 = S at *;have hc := hx.c.arg s0.bs.length S;have hya := hy.arg s0.bs.length S;refine qq ?_;refine qj fun K hK => ?_;refine qm ?_;refine qe hK ?_;refine qq ?_;refine qq ?_;refine qj fun K hK => ?_;refine qm ?_;refine qn ?_;simp only [List.length_map];refine qm ?_;refine qn ?_;simp only [List.length_map];refine qg ?_;refine qe hK ?_;refine qE rfl (by simp) ?_;refine EvC.skip ?_;refine qq ?_;refine qq ?_;refine qj fun K hK => ?_;refine qm ?_;refine qe hK ?_;refine EvC.block ?_;refine EvC.loop (fun mm fr st => ∃ (i : Nat),fr.clean = ⟨8, [x.d,y,ixF_Qu fr 2,ixF_Qu fr 3,ixF_Qu fr 4, .int .i64 (i : Nat),ixF_Qu fr 6,ixF_Qu fr 7], []⟩ /\ Has s0.bs.length S st [] /\ (i + mm = x.l.length)) (x.l.length) ?_ ?_
 ·exact ⟨0,rfl,hH,by omega⟩
 rintro mm fr st ⟨i,hfr,hH,hi⟩;rw [hfr];clear hfr;generalize ixF_Qu fr = ee;clear fr;refine qq ?_;refine qq ?_;refine qj fun K hK => ?_;refine qm ?_;refine qm ?_;refine qn ?_;simp only [List.length_map];refine qg ?_;refine qe hK ?_
 by_cases hil : i < x.l.length
 ·obtain ⟨q,hq⟩ : ∃ q,x.l[i]? = some q := ⟨x.l[i]'hil,List.getElem?_eq_getElem _⟩
  have hqo := hx.i q (List.mem_of_getElem? hq);have hrq := nod_get hq;have hrc : ((x.l.map cpN).map nodC)[i]? = some (nodC (cpN q)) := by rw [List.getElem?_map,List.getElem?_map,hq]; rfl
  refine qD rfl (by simp; omega) ?_;refine EvC.skip ?_;refine qq ?_;refine EvC.block ?_;change EvC _ _ _ _ _ _;refine qq ?_;generalize hK : SeqQ _ _ _ _ = K;refine EvC.regY rfl ?_;refine EvY.cons ?_;refine qm ?_;refine EvO.nil ⟨rfl,?_⟩;refine EvY.cons ?_;refine qm ?_;refine EvO.nil ⟨rfl,?_⟩;refine EvY.cons ?_;refine qr fun p21 hp21 => ?_;refine EvO.nil ⟨rfl,?_⟩;refine EvY.cons ?_;refine EvO.rloadS rfl (ev rfl) (by assumption) rfl (put_T rfl _) ?_;refine EvO.nil ⟨rfl,?_⟩;refine EvY.cons ?_;refine qm ?_;refine EvO.nil ⟨rfl,?_⟩;refine EvY.cons ?_;refine qm ?_;refine EvO.nil ⟨rfl,?_⟩;refine EvY.cons ?_;refine EvO.pidx rfl rfl rfl hy rfl rfl hrc (put_T rfl _) (fun hp25 => ?_);refine EvO.nil ⟨rfl,?_⟩;refine EvY.cons ?_;refine qR ?_;refine EvO.nil ⟨rfl,?_⟩;refine EvY.cons ?_;refine qa hH fun k6 st hk6 hH => ?_;refine EvO.nil ⟨rfl,?_⟩;refine EvY.cons ?_;refine qa hH fun k7 st hk7 hH => ?_;refine EvO.nil ⟨rfl,?_⟩;refine EvY.cons ?_;refine qS hH at1 fun st hH => ?_;dsimp only [u2,u1,u3,u4,setMany,u5,u6,D.cells,Nat.reduceAdd,nodC] at hH;refine EvO.nil ⟨by exact Bool.and_eq_true_iff.2 ⟨(by exact chk_still0 rfl rfl (slBoxC hy)),Bool.and_eq_true_iff.2 ⟨(by exact chk_still0 rfl rfl rfl),rfl⟩⟩,?_⟩;refine EvY.cons ?_;refine qS hH at0 fun st hH => ?_;dsimp only [u2,u1,u3,u4,setMany,u5,u6,D.cells,Nat.reduceAdd,nodC] at hH;refine EvO.nil ⟨rfl,?_⟩;refine EvY.nil ?_;subst hK;have hg5 : (q.op != q.op) = false := by simp
  have hg12 : (q.mn != q.mn) = false := by simp
  have hg19 : (q.mx != q.mx) = false := by simp
  have hg26 : (q.lz != q.lz) = false := by simp
  have hg33 : (q.cap != q.cap) = false := by simp
  have hg40 : (q.kids != q.kids) = false := by simp
  have hsr : ∀ st : St,Ev pv 57 [q.rd,rangesV q.rs] st (.bool true) st := fun st => by
   have := sameRange_ev (s0 := st) (hqo.1.rows st) ((ranges_sl q.rs).rows st) (Nat.le_trans hqo.2.1 (by decide)) (Nat.le_trans hqo.2.1 (by decide))
   rwa [decide_eq_true rfl] at this
  unfold cpN at hH;refine qq ?_;refine qj fun K hK => ?_;refine qp (o := 0) ?_;refine ql hH at1 ?_;refine qp (o := 0) ?_;refine ql hH at0 ?_;refine qg ?_;refine qm ?_;refine qp (o := 2) ?_ (hg := wi hg5);refine ql hH at1 ?_ (hg := wi hg5);refine qp (o := 2) ?_ (hg := wi hg5);refine ql hH at0 ?_ (hg := wi hg5);refine qg ?_ (hg := wi hg5);refine qu hg5 ?_;refine qm ?_;refine qp (o := 3) ?_ (hg := wi hg12);refine ql hH at1 ?_ (hg := wi hg12);refine qp (o := 3) ?_ (hg := wi hg12);refine ql hH at0 ?_ (hg := wi hg12);refine qg ?_ (hg := wi hg12);refine qu hg12 ?_;refine qm ?_;refine qp (o := 4) ?_ (hg := wi hg19);refine ql hH at1 ?_ (hg := wi hg19);refine qp (o := 4) ?_ (hg := wi hg19);refine ql hH at0 ?_ (hg := wi hg19);refine qg ?_ (hg := wi hg19);refine qu hg19 ?_;refine qm ?_;refine qp (o := 5) ?_ (hg := wi hg26);refine ql hH at1 ?_ (hg := wi hg26);refine qp (o := 5) ?_ (hg := wi hg26);refine ql hH at0 ?_ (hg := wi hg26);refine qg ?_ (hg := wi hg26);refine qu hg26 ?_;refine qm ?_;refine qp (o := 6) ?_ (hg := wi hg33);refine ql hH at1 ?_ (hg := wi hg33);refine qp (o := 6) ?_ (hg := wi hg33);refine ql hH at0 ?_ (hg := wi hg33);refine qg ?_ (hg := wi hg33);refine qu hg33 ?_;refine qm ?_;refine qp (o := 1) ?_ (hg := wi hg40);refine ql hH at1 ?_ (hg := wi hg40);refine qp (o := 1) ?_ (hg := wi hg40);refine ql hH at0 ?_ (hg := wi hg40);refine qv ((hsr _)) ?_ (hg := wi hg40);refine qg ?_ (hg := wi hg40);refine qu hg40 ?_;refine qe hK ?_;refine EvC.cond (v := false) (by dsimp only [Fr.ev,Fr.get,nth,V.look]; rfl) (fun h => by cases h) (fun _ => ?_);refine EvC.skip ?_;refine qj fun K hK => ?_;refine qm ?_;refine EvO.addZ (z := ((i + 1 : Nat) : Int)) rfl (ev rfl) (ev rfl) (by (try simp only [List.length_reverse,List.length_cons,List.length_nil,List.length_append,List.length_map,List.length_set]); rw [wrap_i64 (by omega) (by omega)] <;> omega) (put_T rfl _) ?_;refine qm ?_;refine qe hK ?_;exact ⟨mm - 1,by omega,⟨i + 1,rfl,hH.drop 2,by omega⟩⟩
 ·refine qE rfl (by simp; omega) ?_;refine EvC.exit ?_;refine qq ?_;refine qj fun K hK => ?_;refine qm ?_;refine qe hK ?_;refine EvC.ret ⟨rx,_,rfl,rl hSb hH (rfl)⟩
def insP (i : PIns) : Int × Int × Int × List Rg := (i.op,i.x,i.y,i.rs)
def cutL (s : Nat) : Nat -> List D -> List (List D)
  | 0,_ => []
  | n + 1,l => l.take s :: cutL s n (l.drop s)
theorem cutL_len (s : Nat) : ∀ (n : Nat) (l : List D),(cutL s n l).length = n
  | 0,_ => rfl
  | n + 1,l => by simp only [cutL,List.length_cons,cutL_len s n]
theorem cutL_each (s : Nat) : ∀ (n : Nat) (l : List D),n * s <= l.length -> ∀ e ∈ cutL s n l,e.length = s
  | 0,_,_,e,he => by cases he
  | n + 1,l,h,e,he => by
    have hs : n * s + s <= l.length := by rw [Nat.succ_mul] at h; exact h
    simp only [cutL,List.mem_cons] at he
    rcases he with rfl | he
    · rw [List.length_take]; omega
    · exact cutL_each s n _ (by rw [List.length_drop]; omega) e he
theorem cutL_flat (s : Nat) : ∀ (n : Nat) (l : List D),n * s <= l.length -> (cutL s n l).flatten = l.take (n * s)
  | 0,_,_ => by simp [cutL]
  | n + 1,l,h => by
    have hs : n * s + s <= l.length := by rw [Nat.succ_mul] at h; exact h
    simp only [cutL,List.flatten_cons]
    rw [cutL_flat s n _ (by rw [List.length_drop]; omega),Nat.succ_mul,Nat.add_comm (n * s) s,List.take_add]
theorem own_any {st : St} {k ver off n s : Nat} {c : List D} (hm : st.bs[k]? = some (.mem ver true c)) (hl : off + n * s <= c.length) : ∃ es,es.length = n /\ OwnP st s (.win k ver off n s) es := by
  have h1 := cutL_len s n (c.drop off)
  have h2 : n * s <= (c.drop off).length := by rw [List.length_drop]; omega
  refine ⟨cutL s n (c.drop off),h1,?_⟩
  have := OwnP.win (st := st) (s := s) k ver off (cutL s n (c.drop off)) c hm (by rw [h1]; exact hl) (by rw [h1,cutL_flat s n _ h2]) (cutL_each s n _ h2)
  rw [h1] at this
  exact this
def RdO (st : St) (ks : Nat -> Prop) (rd : D) (n : Nat) : Prop := ∃ (s : Nat) (fs : List (List D)),OwnP st s rd fs /\ fs.length = n /\ (n = 0 \/ s = 2) /\ ∀ k,rd.ref = k + 1 -> ks k
theorem RdO.move {st st' : St} {ks : Nat -> Prop} (h : ∀ k,ks k -> st'.bs[k]? = st.bs[k]?) {rd : D} {n : Nat} (p : RdO st ks rd n) : RdO st' ks rd n := by
  obtain ⟨s,fs,h1,h2,h3,h4⟩ := p
  exact ⟨s,fs,h1.move fun k hk => h k (h4 k hk),h2,h3,h4⟩
def spoE (ks : Nat -> Prop) (x : D) (M : List PIns) : Ent :=
  ⟨fun j => x.ref = j + 1 \/ ks j,fun st => OwnP st 4 x (M.map insC) /\ (∀ k,x.ref = k + 1 -> ¬ ks k) /\ ∀ i ∈ M,RdO st ks i.rd i.rs.length,fun h p => by
    obtain ⟨h1,h2,h3⟩ := p
    exact ⟨h1.move fun k hk => h k (.inl hk),h2,fun i hi => (h3 i hi).move fun k hk => h k (.inr hk)⟩⟩
theorem own_cases {st : St} {s : Nat} {x : D} {es : List (List D)} (h : OwnP st s x es) : (x = .nul /\ es = []) \/ ∃ k ver off c,x = .win k ver off es.length s /\ st.bs[k]? = some (.mem ver true c) /\ off + es.length * s <= c.length := by
  cases h with
  | nul => exact .inl ⟨rfl,rfl⟩
  | win k ver off es c hm hl hc he => exact .inr ⟨k,ver,off,c,rfl,hm,hl⟩
variable {N : Nat} {S st : St} {H : List Ent}
theorem spo_set {ks : Nat -> Prop} {x : D} {M : List PIns} {j q : Nat} {m : PIns} {cs : List D} (h : Has N S st H) (hj : H[j]? = some (spoE ks x M)) (hi : m ∈ M) (hq : q < m.rs.length) (hcs : cs.length = 2) (hw : S.flr <= N \/ refs cs = 0) :
    ∃ k v o,m.rd = .win k v o m.rs.length 2 /\ (st.mem? k v).isSome = true /\ ∃ st',st.wr k v (o + q * 2) cs = some st' /\ Has N S st' H := by
  obtain ⟨h1,h2,h3⟩ := (h.ok j _ hj).1
  have hK := (h.ok j _ hj).2
  obtain ⟨s,fs,g1,g2,g3,g4⟩ := h3 m hi
  have hs : s = 2 := by rcases g3 with g3 | g3 <;> omega
  subst hs
  have hH1 : Has N S st [.lst m.rd 2 fs] := by
    refine ⟨h.ex,h.hN,h.hro,fun i e hi => ?_,fun i i' a b hii ha hb k hka hkb => ?_⟩
    · cases i with
      | zero => simp only [List.getElem?_cons_zero,Option.some.injEq] at hi; subst hi; exact ⟨g1,fun k hk => hK k (.inr (g4 k hk))⟩
      | succ i => simp at hi
    · cases i with
      | zero => cases i' with
        | zero => exact hii rfl
        | succ i' => simp at hb
      | succ i => simp at ha
  obtain ⟨e,hei⟩ : ∃ e,fs[q]? = some e := ⟨fs[q]'(by omega),List.getElem?_eq_getElem _⟩
  rcases own_cases g1 with ⟨_,rfl⟩ | ⟨k,v,o,c,hx,hm,hl⟩
  · simp at g2; omega
  rw [hx] at hH1
  obtain ⟨st',q1,q2⟩ := hH1.setElem (j := 0) (i := q) (o := 0) (cs := cs) at0 hei (by omega) hw
  rw [Nat.add_zero] at q1
  refine ⟨k,v,o,by rw [hx,g2],by rw [St.mem_of hm]; rfl,st',q1,?_⟩
  have hkk : ks k := g4 k (by rw [hx]; simp only [D.ref])
  have hkl := (hK k (.inr hkk)).2
  have hne : x.ref ≠ k + 1 := fun e => h2 k e hkk
  obtain ⟨c',hcl,hbs,hother,hlen,hf,hr⟩ : ∃ c' : List D,c'.length = c.length /\ st'.bs[k]? = some (.mem v true c') /\ (∀ n,n ≠ k -> st'.bs[n]? = st.bs[n]?) /\ st.bs.length = st'.bs.length /\ st'.flr = st.flr /\ st'.ro = st.ro := by
    unfold St.wr at q1
    simp only [St.mem_of hm] at q1
    split at q1
    · cases q1
      exact ⟨_,setMany_len ..,by simp only; rw [List.getElem?_set_self hkl],fun n hn => by simp only; rw [List.getElem?_set_ne (fun e => hn e.symm)],by simp,rfl,rfl⟩
    · cases q1
  have key : ∀ i ∈ M,RdO st' ks i.rd i.rs.length := fun i hi => by
    obtain ⟨s',fs',p1,p2,p3,p4⟩ := h3 i hi
    rcases own_cases p1 with ⟨e1,e2⟩ | ⟨k2,v2,o2,c2,hx2,hm2,hl2⟩
    · exact ⟨s', [],by rw [e1]; exact .nul,by rw [<- p2,e2],p3,p4⟩
    · by_cases hk2 : k2 = k
      · subst hk2
        rw [hm] at hm2
        cases hm2
        obtain ⟨es',w1,w2⟩ := own_any (st := st') hbs (n := fs'.length) (s := s') (off := o2) (by rw [hcl]; exact hl2)
        exact ⟨s',es',by rw [hx2]; exact w2,by omega,p3,p4⟩
      · exact ⟨s',fs',p1.move fun n hn => by rw [hx2] at hn; simp only [D.ref] at hn; exact hother n (by omega),p2,p3,p4⟩
  have hu := h.upd hj (e' := spoE ks x M) (fun n hn hnot => hother n fun e => hnot (.inr (e ▸ hkk))) (Nat.le_of_eq hlen) hf hr ⟨h1.move fun n hn => hother n fun e => hne (by rw [<- e]; exact hn),h2,key⟩ (fun n hn => .inl hn) (fun n hn => by rw [<- hlen]; exact (hK n hn).2)
  have hs : H.set j (spoE ks x M) = H := by
    refine List.ext_getElem? fun n => ?_
    by_cases hn : n = j
    · subst hn; rw [List.getElem?_set_self (lt_get hj),hj]
    · rw [List.getElem?_set_ne (fun e => hn e.symm)]
  rwa [hs] at hu
theorem elD_two {s : Nat} {e : List D} {r : Rg} (he : e.length = s) (hp : ∀ d ∈ e,plainC d = true) (h : elD s e = elD 2 (rangeC r)) : s = 2 /\ e = rangeC r := by
  have h2 : elD 2 (rangeC r) = .agg (rangeC r) := rfl
  rw [h2] at h
  by_cases h1 : s = 1
  · subst h1
    match e,he with
    | [d],_ =>
      have h3 : d = .agg (rangeC r) := h
      have h4 := hp d (List.mem_cons_self ..)
      rw [h3] at h4; cases h4
  · have h3 : elD s e = .agg e := by
      unfold elD
      split
      · omega
      · rfl
    rw [h3] at h
    cases h
    exact ⟨he.symm,rfl⟩
theorem map_elD {s : Nat} : ∀ {fs : List (List D)} {rs : List Rg},(∀ e ∈ fs,e.length = s) -> (∀ e ∈ fs, ∀ d ∈ e,plainC d = true) -> fs.map (elD s) = (rs.map rangeC).map (elD 2) -> fs = rs.map rangeC /\ (rs = [] \/ s = 2)
  | [], [],_,_,_ => ⟨rfl, .inl rfl⟩
  | [],_ :: _,_,_,h => by simp at h
  | _ :: _, [],_,_,h => by simp at h
  | e :: fs,r :: rs,h1,h2,h => by
    simp only [List.map_cons,List.cons.injEq] at h
    obtain ⟨a,b⟩ := elD_two (h1 e (List.mem_cons_self ..)) (h2 e (List.mem_cons_self ..)) h.1
    obtain ⟨c,_⟩ := map_elD (fs := fs) (rs := rs) (fun x hx => h1 x (List.mem_cons_of_mem _ hx)) (fun x hx => h2 x (List.mem_cons_of_mem _ hx)) h.2
    exact ⟨by rw [b,c]; rfl, .inr a⟩
def RdV (st : St) (ks : Nat -> Prop) (rd : D) (rs : List Rg) : Prop := ∃ s,OwnP st s rd (rs.map rangeC) /\ (rs = [] \/ s = 2) /\ ∀ k,rd.ref = k + 1 -> ks k
theorem RdV.o {st : St} {ks : Nat -> Prop} {rd : D} {rs : List Rg} (h : RdV st ks rd rs) : RdO st ks rd rs.length := by
  obtain ⟨s,h1,h2,h3⟩ := h
  exact ⟨s,_,h1,by rw [List.length_map],h2.imp (fun e => by rw [e]; rfl) id,h3⟩
theorem deep_ins {st : St} {ks : Nat -> Prop} {e : List D} {c : PIns} (h : All2 (DeepG false st ks) e (insC c)) (hv : InsV c) : ∃ m : PIns,e = insC m /\ insP m = insP c /\ RdV st ks m.rd m.rs := by
  unfold insC at h
  rw [hv.1] at h
  cases h with
  | cons a1 t1 => cases t1 with
    | cons a2 t2 => cases t2 with
      | cons a3 t3 => cases t3 with
        | cons a4 t4 =>
          cases t4
          cases a1; cases a2; cases a3
          generalize hz : D.sl ((c.rs.map rangeC).map (elD 2)) = z at a4
          cases a4 with
          | plain g g2 => subst hz; cases g2
          | lst s rs g1 g2 g3 =>
            have h5 : rs.map (elD s) = (c.rs.map rangeC).map (elD 2) := (D.sl.inj hz).symm
            obtain ⟨e1,e2⟩ := map_elD g1.elen g2 h5
            subst e1
            have mk : ∀ d : D,OwnP st s d (c.rs.map rangeC) -> (∀ k,d.ref = k + 1 -> ks k) -> ∃ m : PIns, [D.int .i64 c.op, .int .i64 c.x, .int .i64 c.y,d] = insC m /\ insP m = insP c /\ RdV st ks m.rd m.rs := fun d h1 h2 => ⟨⟨c.op,c.x,c.y,d,c.rs⟩,rfl,rfl,s,h1,e2,h2⟩
            exact mk _ g1 g3
theorem deep_all {st : St} {ks : Nat -> Prop} : ∀ {es : List (List D)} {code : List PIns},All2 (All2 (DeepG false st ks)) es (code.map insC) -> (∀ i ∈ code,InsV i) -> ∃ M : List PIns,es = M.map insC /\ M.map insP = code.map insP /\ ∀ i ∈ M,RdV st ks i.rd i.rs
  | [], [],_,_ => ⟨[],rfl,rfl,fun i hi => by cases hi⟩
  | _ :: _, [],h,_ => by cases h
  | [],_ :: _,h,_ => by cases h
  | e :: es,c :: code,h,hv => by
    cases h with
    | cons a t =>
      obtain ⟨m,h1,h2,h3⟩ := deep_ins a (hv c (List.mem_cons_self ..))
      obtain ⟨M,h4,h5,h6⟩ := deep_all t fun i hi => hv i (List.mem_cons_of_mem _ hi)
      refine ⟨m :: M,by rw [h1,h4]; rfl,by rw [List.map_cons,List.map_cons,h2,h5],fun i hi => ?_⟩
      rcases List.mem_cons.1 hi with rfl | hi
      · exact h3
      · exact h6 i hi
theorem to_spo {ks : Nat -> Prop} {x : D} {code : List PIns} {j : Nat} (h : Has N S st H) (hj : H[j]? = some (.deepG false ks x 4 (code.map insC))) (hv : ∀ i ∈ code,InsV i) : ∃ M : List PIns,M.map insP = code.map insP /\ (∀ i ∈ M,RdV st ks i.rd i.rs) /\ Has N S st (H.set j (spoE ks x M)) := by
  obtain ⟨⟨es,h1,h2⟩,h3⟩ := (h.ok j _ hj).1
  have hK := (h.ok j _ hj).2
  obtain ⟨M,rfl,h5,h6⟩ := deep_all h2 hv
  exact ⟨M,h5,h6,h.upd hj (e' := spoE ks x M) (fun _ _ _ => rfl) (Nat.le_refl _) rfl rfl ⟨h1,h3,fun i hi => (h6 i hi).o⟩ (fun n hn => .inl hn) (fun n hn => (hK n hn).2)⟩
end Go.Proofs.Ytnleclohocdkaaa
namespace Go.Proofs.Ytnleclohocdkaaa
open Go.V Go
end Go.Proofs.Ytnleclohocdkaaa
namespace Go.V
open Go.RowKit
def isAggW {H : Type} : DataW H -> Bool
  | .agg _ => true
  | _ => false
mutual
def dcs {H : Type} : DataW H -> List D
  | .lit (.bool b) => [.bool b]
  | .lit (.int k n) => [.int k n]
  | .lit (.string l) => [.str l]
  | .lit _ => [.junk]
  | .nil => [.nul]
  | .slice elems _ => [.sl (dels elems)]
  | .agg parts => dparts parts
  | .ptr _ => [.junk]
  | .iface _ _ => [.junk]
  | .map _ => [.junk]
  | .held _ => [.junk]
def dels {H : Type} : List (DataW H) -> List D
  | [] => []
  | d :: r => (if isAggW d then .agg (dcs d) else (dcs d).headD .junk) :: dels r
def dparts {H : Type} : List (DataW H) -> List D
  | [] => []
  | d :: r => dcs d ++ dparts r
end
def dval {H : Type} (d : DataW H) : D := if isAggW d then .agg (dcs d) else (dcs d).headD .junk
theorem dels_map {H : Type} : ∀ l : List (DataW H),dels l = l.map dval
  | [] => rfl
  | d :: r => by simp only [dels,List.map_cons,dels_map r]; rfl
def contig (P : Program) : Nat -> List Field -> Option Nat
  | o, [] => some o
  | o,f :: fs => if f.offset = o then contig P (o + P.cellsOf f.type) fs else none
def okT (P : Program) : Nat -> TypeId -> Bool
  | 0,_ => false
  | n + 1,t => match P.underlying t with
    | some .bool => true
    | some (.int _) => true
    | some .string => true
    | some (.slice e) => okT P n e && decide (0 < P.cellsOf e)
    | some (.struct fs) => (contig P 0 fs.toList == some (P.cellsOf t)) && fs.toList.all fun f => okT P n f.type
    | some (.array m e) => okT P n e && (P.cellsOf t == m * P.cellsOf e)
    | _ => false
structure CR (w : World) (Z : Nat -> Prop) (cs : List D) (vs : List Value) : Prop where
  len : cs.length = vs.length
  one : ∀ v ∈ vs,v.oneCell' = true
  onec : ∀ c ∈ cs,c.cells? = some [c]
  rel : ∀ (i : Nat) c v,cs[i]? = some c -> vs[i]? = some v -> IR w Z c v
theorem CR.nil {w : World} {Z : Nat -> Prop} : CR w Z [] [] := ⟨rfl,by simp,by simp,by simp⟩
theorem CR.single {w : World} {Z : Nat -> Prop} {c : D} {v : Value} (h : IR w Z c v) (h1 : v.oneCell' = true) (h2 : c.cells? = some [c]) : CR w Z [c] [v] :=
  ⟨rfl,by simpa using h1,by simpa using h2,fun i c' v' hc hv => by
    cases i with
    | zero => simp at hc hv; subst hc; subst hv; exact h
    | succ i => simp at hc⟩
theorem CR.append {w : World} {Z : Nat -> Prop} {cs cs' : List D} {vs vs' : List Value} (h : CR w Z cs vs) (g : CR w Z cs' vs') : CR w Z (cs ++ cs') (vs ++ vs') := by
  refine ⟨by simp [h.len,g.len],fun v hv => ?_,fun c hc => ?_,fun i c v hc hv => ?_⟩
  · rcases List.mem_append.1 hv with hv | hv
    · exact h.one v hv
    · exact g.one v hv
  · rcases List.mem_append.1 hc with hc | hc
    · exact h.onec c hc
    · exact g.onec c hc
  · rw [List.getElem?_append] at hc hv
    have := h.len
    split at hc
    · rw [if_pos (by omega)] at hv; exact h.rel i c v hc hv
    · rw [if_neg (by omega)] at hv; rw [<- this] at hv; exact g.rel _ c v hc hv
theorem parts_cr {H : Type} {P : Program} {w : World} {Z : Nat -> Prop} {f : Field -> Option (DataW H × List MemPlace)} {cs : List Value} : ∀ {fs : List Field} {o e : Nat} {xs : List (DataW H × List MemPlace)},contig P o fs = some e -> e <= cs.length -> fs.mapM f = some xs ->
    (∀ g ∈ fs, ∀ x,f g = some x -> CR w Z (dcs x.1) ((cs.drop g.offset).take (P.cellsOf g.type))) -> CR w Z (dparts (xs.map (·.1))) ((cs.drop o).take (e - o)) /\ o <= e
  | [],o,e,xs,hc,_,hm,_ => by
    simp [contig] at hc; subst hc
    simp at hm; subst hm
    simp [dparts]; exact CR.nil
  | g :: fs,o,e,xs,hc,he,hm,hx => by
    simp only [contig] at hc
    split at hc
    · rename_i ho
      rw [List.mapM_cons] at hm
      cases h1 : f g with
      | none => rw [h1] at hm; simp at hm
      | some x =>
        rw [h1] at hm
        cases h2 : fs.mapM f with
        | none => rw [h2] at hm; simp at hm
        | some ys =>
          rw [h2] at hm
          simp at hm; subst hm
          obtain ⟨ih,hle⟩ := parts_cr hc he h2 fun g' hg' => hx g' (List.mem_cons_of_mem _ hg')
          have hg := hx g (List.mem_cons_self ..) x h1
          rw [ho] at hg
          refine ⟨?_,by omega⟩
          simp only [List.map_cons,dparts]
          have : (cs.drop o).take (e - o) = (cs.drop o).take (P.cellsOf g.type) ++ (cs.drop (o + P.cellsOf g.type)).take (e - (o + P.cellsOf g.type)) := by
            rw [<- List.drop_drop,show e - o = P.cellsOf g.type + (e - (o + P.cellsOf g.type)) by omega,List.take_add]
          rw [this]
          exact hg.append ih
    · cases hc
theorem elems_cr {H : Type} {w : World} {Z : Nat -> Prop} {s : Nat} {f : Nat -> Option (DataW H × List MemPlace)} {cs : List Value} : ∀ {m k : Nat} {xs : List (DataW H × List MemPlace)},(List.range' k m).mapM f = some xs -> (k + m) * s <= cs.length ->
    (∀ i x,f i = some x -> CR w Z (dcs x.1) ((cs.drop (i * s)).take s)) -> CR w Z (dparts (xs.map (·.1))) ((cs.drop (k * s)).take (m * s))
  | 0,k,xs,hm,_,_ => by simp at hm; subst hm; simp [dparts]; exact CR.nil
  | m + 1,k,xs,hm,hl,hx => by
    rw [List.range'_succ,List.mapM_cons] at hm
    cases h1 : f k with
    | none => rw [h1] at hm; simp at hm
    | some x =>
      rw [h1] at hm
      cases h2 : (List.range' (k + 1) m).mapM f with
      | none => rw [h2] at hm; simp at hm
      | some ys =>
        rw [h2] at hm
        simp at hm; subst hm
        have ih := elems_cr h2 (by rw [show k + 1 + m = k + (m + 1) by omega]; exact hl) hx
        simp only [List.map_cons,dparts]
        rw [show (m + 1) * s = s + m * s by rw [Nat.add_mul]; omega,List.take_add,List.drop_drop,show k * s + s = (k + 1) * s by rw [Nat.add_mul]; omega]
        exact (hx k x h1).append ih
theorem cells_one {c : D} (h : c.cells? = some [c]) : c.cells = [c] := by
  cases c <;> first | rfl | cases h | (simp only [D.cells?,Option.some.injEq] at h; simpa only [D.cells] using h)
theorem add_none (b off n : Nat) : (⟨b,off,none⟩ : Addr).add n = ⟨b,off + n,none⟩ := by
  cases n <;> simp [Addr.add]
theorem trod_cr {H : Type} {enc : TypeId × Value -> H} {P : Program} {w : World} {spare : Nat -> Bool} {held : Bool} : ∀ (fuel : Nat) (t : TypeId) (cs : List Value) (d : DataW H) (ps : List MemPlace) (n : Nat),DataW.trod enc P w 0 spare held fuel t cs = some (d,ps) -> okT P n t = true ->
    CR w (fun b => b < w.heap.size) (dcs d) cs /\ cs.length = (match P.underlying t with | some (.struct _) | some (.array _ _) => P.cellsOf t | _ => 1) /\ (isAggW d = (match P.underlying t with | some (.struct _) | some (.array _ _) => true | _ => false))
  | 0,t,cs,d,ps,n,h,_ => by simp [DataW.trod] at h
  | fuel + 1,t,cs,d,ps,0,h,ht => by simp [okT] at ht
  | fuel + 1,t,cs,d,ps,n + 1,h,ht => by
    simp only [okT] at ht
    unfold DataW.trod at h
    cases hu : P.underlying t with
    | none => rw [hu] at ht; simp at ht
    | some u =>
      rw [hu] at h ht
      cases u with
      | bool =>
        rcases cs with _ | ⟨v,_ | ⟨v2,cs⟩⟩ <;> try (simp at h; done)
        cases v <;> simp at h
        obtain ⟨rfl,rfl⟩ := h
        exact ⟨CR.single (.bool _) rfl rfl,rfl,rfl⟩
      | int k =>
        rcases cs with _ | ⟨v,_ | ⟨v2,cs⟩⟩ <;> try (simp at h; done)
        cases v <;> simp at h
        obtain ⟨⟨rfl,_⟩,rfl,rfl⟩ := h
        exact ⟨CR.single (.int _ _) rfl rfl,rfl,rfl⟩
      | string =>
        rcases cs with _ | ⟨v,_ | ⟨v2,cs⟩⟩ <;> try (simp at h; done)
        cases v <;> simp at h
        rename_i b
        obtain ⟨_,rfl,rfl⟩ := h
        refine ⟨CR.single ?_ rfl rfl,rfl,rfl⟩
        have := IR.str (w := w) (Z := fun b => b < w.heap.size) b.data.toList
        simpa using this
      | slice e =>
        simp only [Bool.and_eq_true,decide_eq_true_eq] at ht
        rcases cs with _ | ⟨v,_ | ⟨v2,cs⟩⟩ <;> try (simp at h; done)
        cases v <;> try (simp at h; done)
        rename_i a len cap
        cases a with
        | none =>
          cases len <;> cases cap <;> simp at h
          obtain ⟨rfl,rfl⟩ := h
          exact ⟨CR.single .nul rfl rfl,rfl,rfl⟩
        | some a =>
          simp only at h
          split at h
          · rename_i hc
            simp only [Option.bind_eq_some_iff,Option.map_eq_some_iff] at h
            obtain ⟨elems,he,rest,hr,hd⟩ := h
            cases hd
            refine ⟨?_,rfl,rfl⟩
            have hlen : elems.length = len := by simpa using mapM_some_length he
            have hget := mapM_some_get he
            have each : ∀ (i : Nat),i < len -> ∃ x cs,elems[i]? = some x /\ w.cells? 0 (a.add (i * P.cellsOf e)) (P.cellsOf e) = some cs /\ CR w (fun b => b < w.heap.size) (dcs x.1) cs /\ cs.length = P.cellsOf e /\ (isAggW x.1 = (match P.underlying e with | some (.struct _) | some (.array _ _) => true | _ => false)) /\ cs.length = (match P.underlying e with | some (.struct _) | some (.array _ _) => P.cellsOf e | _ => 1) := by
              intro i hi
              have h1 := hget i i (by simp [hi])
              have h2 : elems[i]? = some (elems[i]'(by omega)) := List.getElem?_eq_getElem _
              rw [h2] at h1
              obtain ⟨cs,hcs,hx⟩ := Option.bind_eq_some_iff.1 h1
              obtain ⟨q1,q2,q3⟩ := trod_cr fuel e cs _ _ n hx ht.1
              exact ⟨_,cs,h2,hcs,q1,(World.cells?_some hcs).2.1,q3,q2⟩
            refine CR.single ?_ rfl rfl
            cases len with
            | zero =>
              have : elems = [] := by cases elems with | nil => rfl | cons _ _ => simp at hlen
              subst this
              exact .emp _ _
            | succ m =>
              have hsp : a.spot = none /\ a.block < w.heap.size := by
                obtain ⟨x,cs,_,h2,_,_⟩ := each 0 (by omega)
                refine ⟨?_,?_⟩
                · have := (World.cells?_some h2).2.2 0 ht.2
                  have hl := (World.cells?_some h2).2.1
                  obtain ⟨c0,hc0⟩ : ∃ c0,cs[0]? = some c0 := ⟨cs[0]'(by omega),List.getElem?_eq_getElem _⟩
                  rw [hc0] at this
                  simpa [Addr.add] using World.cell?_spot this
                · simpa [Addr.add] using World.cells?_block h2 ht.2
              obtain ⟨b,off,spot⟩ := a
              simp only at hsp
              obtain ⟨rfl,hb⟩ := hsp
              have hcell : ∀ (i j : Nat),i < m + 1 -> j < P.cellsOf e -> ∃ x cs v,elems[i]? = some x /\ cs[j]? = some v /\ w.cell? ⟨b,off + (i * P.cellsOf e + j),none⟩ = some v /\ CR w (fun b => b < w.heap.size) (dcs x.1) cs := by
                intro i j hi hj
                obtain ⟨x,cs,h1,h2,h3,h4,_⟩ := each i hi
                have := (World.cells?_some h2).2.2 j hj
                obtain ⟨v,hv⟩ : ∃ v,cs[j]? = some v := ⟨cs[j]'(by omega),List.getElem?_eq_getElem _⟩
                rw [hv] at this
                refine ⟨x,cs,v,h1,hv,?_,h3⟩
                rw [<- this,add_none,add_none,Nat.add_assoc]
              have hes : (dels (elems.map (·.1))) = elems.map fun x => dval x.1 := by rw [dels_map,List.map_map]; rfl
              have hE : ∀ (i : Nat) q,(dels (elems.map (·.1)))[i]? = some q -> ∃ x cs,i < m + 1 /\ elems[i]? = some x /\ q.cells? = some q.cells /\ q.cells = dcs x.1 /\ CR w (fun b => b < w.heap.size) (dcs x.1) cs /\ cs.length = P.cellsOf e := by
                intro i q hq
                rw [hes,List.getElem?_map] at hq
                obtain ⟨x,hx,rfl⟩ := Option.map_eq_some_iff.1 hq
                have hi : i < m + 1 := by
                  rcases Nat.lt_or_ge i (m + 1) with h' | h'
                  · exact h'
                  · rw [List.getElem?_eq_none (by omega)] at hx; cases hx
                obtain ⟨x',cs,h1,h2,h3,h4,h5,h6⟩ := each i hi
                rw [hx] at h1; cases h1
                refine ⟨x,cs,hi,hx,?_,?_,h3,h4⟩
                · unfold dval
                  split
                  · rfl
                  · rename_i hna
                    have hl1 : (dcs x.1).length = 1 := by
                      rw [h3.len,h6]
                      rw [h5] at hna
                      revert hna
                      split <;> simp
                    match hd : dcs x.1,hl1 with
                    | [c],_ => have := h3.onec c (by rw [hd]; simp); simp only [List.headD_cons]; rw [cells_one this]; exact this
                · unfold dval
                  split
                  · rfl
                  · rename_i hna
                    have hl1 : (dcs x.1).length = 1 := by
                      rw [h3.len,h6]
                      rw [h5] at hna
                      revert hna
                      split <;> simp
                    match hd : dcs x.1,hl1 with
                    | [c],_ => have := h3.onec c (by rw [hd]; simp); simp only [List.headD_cons]; exact cells_one this
              have hL : (dels (elems.map (·.1))).length = m + 1 := by rw [hes]; simp [hlen]
              have hf := fun (i j : Nat) (hi : i < m + 1) (hj : j < P.cellsOf e) => hcell i j hi hj
              have := IR.sl (w := w) (Z := fun b => b < w.heap.size) (dels (elems.map (·.1))) b off cap (P.cellsOf e) (fun i j => (w.cell? ⟨b,off + (i * P.cellsOf e + j),none⟩).getD undef) hb (by rw [hL]; exact hc.2.1)
                (fun i q hq => by
                  obtain ⟨x,cs,h1,h2,h3,h4,h5,h6⟩ := hE i q hq
                  exact ⟨h3,by rw [h4,h5.len,h6]⟩)
                (fun i q j c hq hj => by
                  obtain ⟨x,cs,h1,h2,h3,h4,h5,h6⟩ := hE i q hq
                  have hjl : j < P.cellsOf e := by
                    rcases Nat.lt_or_ge j (P.cellsOf e) with h' | h'
                    · exact h'
                    · rw [h4,List.getElem?_eq_none (by rw [h5.len,h6]; exact h')] at hj; cases hj
                  obtain ⟨x',cs',v,g1,g2,g3,g4⟩ := hf i j h1 hjl
                  rw [g3]
                  exact ⟨rfl,g4.one v (List.mem_of_getElem? g2)⟩)
                (fun i q j c hq hj => by
                  obtain ⟨x,cs,h1,h2,h3,h4,h5,h6⟩ := hE i q hq
                  have hjl : j < P.cellsOf e := by
                    rcases Nat.lt_or_ge j (P.cellsOf e) with h' | h'
                    · exact h'
                    · rw [h4,List.getElem?_eq_none (by rw [h5.len,h6]; exact h')] at hj; cases hj
                  obtain ⟨x',cs',v,g1,g2,g3,g4⟩ := hf i j h1 hjl
                  rw [g3]
                  rw [h2] at g1; cases g1
                  exact g4.rel j c v (by rw [<- h4]; exact hj) g2)
              rw [hL] at this
              exact this
          · cases h
      | struct fs =>
        simp only [Bool.and_eq_true,beq_iff_eq,List.all_eq_true] at ht
        simp only at h
        split at h
        · rename_i hl
          obtain ⟨xs,hx,hd⟩ := Option.map_eq_some_iff.1 h
          cases hd
          refine ⟨?_,hl,rfl⟩
          obtain ⟨h1,_⟩ := parts_cr (w := w) (Z := fun b => b < w.heap.size) (cs := cs) ht.1 (by omega) hx fun g hg x hgx => (trod_cr fuel g.type _ _ _ n hgx (ht.2 g hg)).1
          rw [List.drop_zero,Nat.sub_zero, <- hl,List.take_length] at h1
          exact h1
        · cases h
      | array m e =>
        simp only [Bool.and_eq_true,beq_iff_eq] at ht
        simp only at h
        split at h
        · rename_i hl
          obtain ⟨xs,hx,hd⟩ := Option.map_eq_some_iff.1 h
          cases hd
          refine ⟨?_,hl,rfl⟩
          rw [List.range_eq_range'] at hx
          have h1 := elems_cr (w := w) (Z := fun b => b < w.heap.size) (s := P.cellsOf e) (cs := cs) hx (by rw [Nat.zero_add, <- ht.2,hl]; exact Nat.le_refl _) fun i x hix => (trod_cr fuel e _ _ _ n hix ht.1).1
          rw [Nat.zero_mul,List.drop_zero, <- ht.2, <- hl,List.take_length] at h1
          exact h1
        · cases h
      | _ => simp at ht
theorem trod_ir {H : Type} {enc : TypeId × Value -> H} {P : Program} {w : World} {spare : Nat -> Bool} {held : Bool} {r : Reach} {base : Nat} {t : TypeId} {v : Value} {d : DataW H} {ps : List MemPlace} {n : Nat} (h : DataW.Trod enc P w 0 spare held t v d ps) (ht : okT P n t = true) (hv : Value.okWide P w r base t v) :
    IR w (fun b => b < w.heap.size) (dval d) v := by
  obtain ⟨fuel,hf⟩ := h
  obtain ⟨h1,h2,h3⟩ := trod_cr fuel t _ d ps n hf ht
  have hu : ∃ u,P.underlying t = some u := by
    cases n with
    | zero => simp [okT] at ht
    | succ n =>
      simp only [okT] at ht
      cases hu : P.underlying t with
      | none => rw [hu] at ht; simp at ht
      | some u => exact ⟨u,rfl⟩
  obtain ⟨u,hu⟩ := hu
  unfold Value.okWide at hv
  rw [hu] at hv h2 h3
  have hagg : (∃ cs : Array Value,v = .agg cs) -> isAggW d = true -> IR w (fun b => b < w.heap.size) (dval d) v := by
    rintro ⟨cs,rfl⟩ hd
    unfold dval
    rw [if_pos hd]
    have := IR.agg (w := w) (Z := fun b => b < w.heap.size) (dcs d) cs.toList (by simpa [Value.cells] using h1.len) (by simpa [Value.cells] using h1.one) (by simpa [Value.cells] using h1.rel)
    simpa using this
  have hone : isAggW d = false -> v.cells.toList.length = 1 -> (∀ cs,v ≠ .agg cs) -> IR w (fun b => b < w.heap.size) (dval d) v := by
    intro hd hl hna
    unfold dval
    rw [if_neg (by rw [hd]; simp)]
    have hc : v.cells.toList = [v] := by cases v <;> first | rfl | exact absurd rfl (hna _)
    rw [hc] at h1
    match hq : dcs d,h1.len with
    | [c],_ => exact h1.rel 0 c v (by rw [hq]; rfl) rfl
  have hcell : Cell.okWide P w r base t v -> ∀ cs,v ≠ .agg cs := by
    rintro hc cs rfl
    unfold Cell.okWide at hc
    rw [hu] at hc
    cases u <;> simp [Cell.ok,hu] at hc
  cases u with
  | struct fs => obtain ⟨cs,h,_⟩ := hv; exact hagg ⟨cs,h⟩ h3
  | array m e => obtain ⟨cs,h,_⟩ := hv; exact hagg ⟨cs,h⟩ h3
  | _ => exact hone h3 h2 (hcell hv)
end Go.V
namespace Go.V
open Go.RowKit
theorem law_calls {pv : Pv} {P : Program} (h : pv.Ok P /\ pv.codes /\ CfOk P pv (primF pv)) {f : Nat} {ds : List D} {st' : St} (hs : Ev pv f ds ⟨[],0,0⟩ (.bool true) st') {w : World} {us : List Value} (hl : ds.length = us.length)
    (hr : ∀ (i : Nat) c v,ds[i]? = some c -> us[i]? = some v -> IR w (fun b => b < w.heap.size) c v) : Calls P f us.toArray w fun e w' => e = .returned (.bool true) /\ Below w.heap.size w w' := by
  obtain ⟨N,hN⟩ := Ev.out hs
  refine (sound h (hN N (Nat.le_refl _)) (w := w) (Z := fun b => b < w.heap.size) (fun _ h => h) hl hr).mono fun e w' => ?_
  rintro ⟨v,β',Z',rfl,he,hv⟩
  rw [vr_bool hv]
  exact ⟨rfl,⟨he.os,he.tape,he.output,he.size,fun k hk => he.block k hk fun f => f⟩⟩
end Go.V
namespace Go.V
open Go.RowKit
def Rd {H : Type} (enc : TypeId × Value -> H) (P : Program) (w : World) (spare : Nat -> Bool) (held : Bool) (t : TypeId) (d : DataW H) : Prop :=
  ∃ fuel cs ps,DataW.trod enc P w 0 spare held fuel t cs = some (d,ps)
section
variable {H : Type} {enc : TypeId × Value -> H} {P : Program} {w : World} {spare : Nat -> Bool} {held : Bool} {t e : TypeId} {d : DataW H}
theorem Rd.of {v : Value} {ps : List MemPlace} (h : DataW.Trod enc P w 0 spare held t v d ps) : Rd enc P w spare held t d := by
  obtain ⟨fuel,h⟩ := h
  exact ⟨fuel,_,_,h⟩
theorem Rd.int {k : IntKind} (h : Rd enc P w spare held t d) (ht : P.underlying t = some (.int k)) : ∃ n : Int,d = .lit (.int k n) /\ (Lit.int k n).wf = true := by
  obtain ⟨fuel,cs,ps,h⟩ := h
  cases fuel with
  | zero => simp [DataW.trod] at h
  | succ fuel =>
    unfold DataW.trod at h
    rw [ht] at h
    rcases cs with _ | ⟨v,_ | ⟨v2,cs⟩⟩ <;> try (simp at h; done)
    cases v <;> simp at h
    obtain ⟨⟨rfl,hw⟩,rfl,_⟩ := h
    exact ⟨_,rfl,hw⟩
theorem Rd.bool (h : Rd enc P w spare held t d) (ht : P.underlying t = some .bool) : ∃ b : Bool,d = .lit (.bool b) := by
  obtain ⟨fuel,cs,ps,h⟩ := h
  cases fuel with
  | zero => simp [DataW.trod] at h
  | succ fuel =>
    unfold DataW.trod at h
    rw [ht] at h
    rcases cs with _ | ⟨v,_ | ⟨v2,cs⟩⟩ <;> try (simp at h; done)
    cases v <;> simp at h
    obtain ⟨rfl,_⟩ := h
    exact ⟨_,rfl⟩
theorem Rd.string (h : Rd enc P w spare held t d) (ht : P.underlying t = some .string) : ∃ l : List UInt8,d = .lit (.string l) := by
  obtain ⟨fuel,cs,ps,h⟩ := h
  cases fuel with
  | zero => simp [DataW.trod] at h
  | succ fuel =>
    unfold DataW.trod at h
    rw [ht] at h
    rcases cs with _ | ⟨v,_ | ⟨v2,cs⟩⟩ <;> try (simp at h; done)
    cases v <;> simp at h
    obtain ⟨_,rfl,_⟩ := h
    exact ⟨_,rfl⟩
theorem Rd.slice (h : Rd enc P w spare held t d) (ht : P.underlying t = some (.slice e)) : d = .nil \/ ∃ elems rest,d = .slice elems rest /\ ∀ x ∈ elems,Rd enc P w spare held e x := by
  obtain ⟨fuel,cs,ps,h⟩ := h
  cases fuel with
  | zero => simp [DataW.trod] at h
  | succ fuel =>
    unfold DataW.trod at h
    rw [ht] at h
    rcases cs with _ | ⟨v,_ | ⟨v2,cs⟩⟩ <;> try (simp at h; done)
    cases v <;> try (simp at h; done)
    rename_i a len cap
    cases a with
    | none =>
      cases len <;> cases cap <;> simp at h
      obtain ⟨rfl,rfl⟩ := h
      exact .inl rfl
    | some a =>
      simp only at h
      split at h
      · simp only [Option.bind_eq_some_iff,Option.map_eq_some_iff] at h
        obtain ⟨elems,hm,rest,hr,hd⟩ := h
        cases hd
        refine .inr ⟨_,_,rfl,fun x hx => ?_⟩
        obtain ⟨y,hy,rfl⟩ := List.mem_map.1 hx
        have hlen : elems.length = len := by simpa using mapM_some_length hm
        have hget := mapM_some_get hm
        obtain ⟨i,hi⟩ := List.getElem?_of_mem hy
        have hil : i < len := by have := lt_get hi; omega
        have h1 := hget i i (by simp [hil])
        rw [hi] at h1
        obtain ⟨cs,_,hx⟩ := Option.bind_eq_some_iff.1 h1
        exact ⟨fuel,cs,y.2,hx⟩
      · cases h
theorem mapM_all2 {α β : Type} {f : α -> Option β} : ∀ {l : List α} {m : List β},l.mapM f = some m -> All2 (fun a b => f a = some b) l m
  | [],m,h => by simp at h; subst h; exact .nil
  | a :: l,m,h => by
    rw [List.mapM_cons] at h
    cases h1 : f a with
    | none => rw [h1] at h; simp at h
    | some b =>
      rw [h1] at h
      cases h2 : l.mapM f with
      | none => rw [h2] at h; simp at h
      | some ys => rw [h2] at h; simp at h; subst h; exact .cons h1 (mapM_all2 h2)
theorem All2.mapR {α β γ : Type} {R : α -> γ -> Prop} {f : β -> γ} : ∀ {l : List α} {m : List β},All2 (fun a b => R a (f b)) l m -> All2 R l (m.map f)
  | _,_, .nil => .nil
  | _,_, .cons a t => .cons a t.mapR
theorem Rd.struct {fs : Array Field} (h : Rd enc P w spare held t d) (ht : P.underlying t = some (.struct fs)) : ∃ parts,d = .agg parts /\ All2 (fun (f : Field) x => Rd enc P w spare held f.type x) fs.toList parts := by
  obtain ⟨fuel,cs,ps,h⟩ := h
  cases fuel with
  | zero => simp [DataW.trod] at h
  | succ fuel =>
    unfold DataW.trod at h
    rw [ht] at h
    simp only at h
    split at h
    · obtain ⟨xs,hx,hd⟩ := Option.map_eq_some_iff.1 h
      cases hd
      refine ⟨_,rfl,?_⟩
      exact ((mapM_all2 hx).mono fun f x hfx => (⟨fuel,_,_,hfx⟩ : Rd enc P w spare held f.type x.1)).mapR
    · cases h
theorem Rd.array {n : Nat} (h : Rd enc P w spare held t d) (ht : P.underlying t = some (.array n e)) : ∃ parts,d = .agg parts /\ parts.length = n /\ ∀ x ∈ parts,Rd enc P w spare held e x := by
  obtain ⟨fuel,cs,ps,h⟩ := h
  cases fuel with
  | zero => simp [DataW.trod] at h
  | succ fuel =>
    unfold DataW.trod at h
    rw [ht] at h
    simp only at h
    split at h
    · obtain ⟨xs,hx,hd⟩ := Option.map_eq_some_iff.1 h
      cases hd
      have h1 := mapM_all2 hx
      refine ⟨_,rfl,by have := h1.len; simp at this; simp [<- this],fun x hx' => ?_⟩
      obtain ⟨y,hy,rfl⟩ := List.mem_map.1 hx'
      have key : ∀ {l : List Nat} {m : List (DataW H × List MemPlace)},All2 (fun i x => DataW.trod enc P w 0 spare held fuel e ((cs.drop (i * P.cellsOf e)).take (P.cellsOf e)) = some x) l m -> ∀ y ∈ m,Rd enc P w spare held e y.1 := by
        intro l m h
        induction h with
        | nil => intro y hy; cases hy
        | cons a t ih =>
          intro y hy
          rcases List.mem_cons.1 hy with rfl | hy
          · exact ⟨fuel,_,_,a⟩
          · exact ih y hy
      exact key h1 y hy
    · cases h
end
theorem sl_of {H α : Type} {s : Nat} {f : α -> List D} {Q : α -> DataW H -> Prop} {elems rest : List (DataW H)} (h : ∀ x ∈ elems, ∃ a,(dval x).cells? = some (dval x).cells /\ (dval x).cells = f a /\ (f a).length = s /\ Q a x) :
    ∃ ws : List α,SlD (dval (.slice elems rest)) s (ws.map f) /\ ws.length = elems.length /\ ∀ a ∈ ws, ∃ x ∈ elems,Q a x := by
  have key : ∃ ws : List α,(elems.map dval).map D.cells = ws.map f /\ (∀ d ∈ elems.map dval,d.cells? = some d.cells /\ d.cells.length = s) /\ ws.length = elems.length /\ ∀ a ∈ ws, ∃ x ∈ elems,Q a x := by
    induction elems with
    | nil => exact ⟨[],rfl,fun d hd => (by cases hd),rfl,fun a ha => by cases ha⟩
    | cons x l ih =>
      obtain ⟨ws,h1,h2,h3,h4⟩ := ih fun y hy => h y (List.mem_cons_of_mem _ hy)
      obtain ⟨a,g1,g2,g3,g4⟩ := h x (List.mem_cons_self ..)
      refine ⟨a :: ws,by simp only [List.map_cons,h1,g2],fun d hd => ?_,by simp [h3],fun b hb => ?_⟩
      · simp only [List.map_cons,List.mem_cons] at hd
        rcases hd with rfl | hd
        · exact ⟨g1,by rw [g2]; exact g3⟩
        · exact h2 d hd
      · rcases List.mem_cons.1 hb with rfl | hb
        · exact ⟨x,List.mem_cons_self ..,g4⟩
        · obtain ⟨y,hy,hq⟩ := h4 b hb
          exact ⟨y,List.mem_cons_of_mem _ hy,hq⟩
  obtain ⟨ws,h1,h2,h3,h4⟩ := key
  refine ⟨ws, .inr ⟨elems.map dval,?_,h1,h2⟩,h3,h4⟩
  show D.sl (dels elems) = _
  rw [dels_map]
theorem sl_nil {H α : Type} {s : Nat} {f : α -> List D} : SlD (dval (.nil : DataW H)) s (([] : List α).map f) := .inl ⟨rfl,rfl⟩
end Go.V
namespace Go.Proofs.Ytnleclohocdkaaa
theorem bulk_one {H : Type} (d : DataW H) : 1 <= Rows.uptoBulk d := by
  cases d with
  | lit l => cases l <;> simp [Rows.uptoBulk]
  | _ => simp [Rows.uptoBulk]
theorem bulk_len {H : Type} (l : List (DataW H)) : l.length <= Rows.uptoBulkAll l := by
  induction l with
  | nil => simp [Rows.uptoBulkAll]
  | cons x r ih => have := bulk_one x; simp only [Rows.uptoBulkAll,List.length_cons]; omega
end Go.Proofs.Ytnleclohocdkaaa
namespace Go.Proofs.Ytnleclohocdkaaa
open Go.V Go Go.RowKit
variable {H : Type} {enc : TypeId × Value -> H} {w : World} {spare : Nat -> Bool} {held : Bool} {d : DataW H}
theorem bulk_all {H : Type} {l : List (DataW H)} {x : DataW H} (h : x ∈ l) : Rows.uptoBulk x <= Rows.uptoBulkAll l := by
 induction l with
 | nil => cases h
 | cons y l ih =>
  simp only [Rows.uptoBulkAll]
  rcases List.mem_cons.1 h with rfl | h
  ·omega
  ·have := ih h; omega
theorem arg_range (h : Rd enc Try.prog w spare held 42 d) : ∃ a : Rg,(dval d).cells? = some (dval d).cells /\ (dval d).cells = rangeC a := by
 obtain ⟨parts,rfl,hp⟩ := h.struct Try.underlying42
 cases hp with
 | cons a hp => cases hp with
  | cons b hp => cases hp with
   | nil =>
    obtain ⟨x,rfl,_⟩ := a.int Try.underlying21;obtain ⟨y,rfl,_⟩ := b.int Try.underlying21;exact ⟨(x,y),rfl,rfl⟩
theorem arg_ranges (h : Rd enc Try.prog w spare held 37 d) : ∃ rs : List Rg,SlD (dval d) 2 (rs.map rangeC) /\ rs.length <= Rows.uptoBulk d := by
 rcases h.slice Try.underlying37 with rfl | ⟨elems,rest,rfl,he⟩
 ·exact ⟨[],sl_nil,by simp⟩
 ·obtain ⟨rs,h1,h2,_⟩ := sl_of (s := 2) (f := rangeC) (Q := fun _ _ => True) (rest := rest) fun x hx => by
   obtain ⟨a,h1,h2⟩ := arg_range (he x hx);exact ⟨a,h1,h2,rfl,trivial⟩
  refine ⟨rs,h1,?_⟩;have := bulk_len elems;simp only [Rows.uptoBulk]; omega
end Go.Proofs.Ytnleclohocdkaaa
namespace Go.Proofs.Ytnleclohocdkaaa
open Go.V Go Go.RowKit
variable {H : Type} {enc : TypeId × Value -> H} {w : World} {spare : Nat -> Bool} {held : Bool} {d : DataW H}
theorem wf_i64 {n : Int} (h : (Lit.int .i64 n).wf = true) : -9223372036854775808 <= n /\ n <= 9223372036854775807 := by
 have : -9223372036854775808 <= n /\ n <= 9223372036854775807 := by simpa [Lit.wf,IntKind.min,IntKind.max,IntKind.signed,IntKind.bits] using h
 exact this
theorem arg_nod (h : Rd enc Try.prog w spare held 98 d) : ∃ n : Nod,(dval d).cells? = some (dval d).cells /\ (dval d).cells = nodC n /\ SlD n.rd 2 (n.rs.map rangeC) /\ n.rs.length <= Rows.uptoBulk d /\ n.kids <= 9223372036854775807 := by
 obtain ⟨parts,rfl,hp⟩ := h.struct Try.underlying98
 cases hp with
 | cons a hp => cases hp with
  | cons b hp => cases hp with
   | cons c hp => cases hp with
    | cons e hp => cases hp with
     | cons f hp => cases hp with
      | cons g hp => cases hp with
       | cons i hp => cases hp with
        | nil =>
         rename_i d1 d2 d3 d4 d5 d6 d7;obtain ⟨x,rfl,_⟩ := a.int Try.underlying3;obtain ⟨rs,h1,h2⟩ := arg_ranges b;obtain ⟨y,rfl,_⟩ := c.int Try.underlying3;obtain ⟨z,rfl,_⟩ := e.int Try.underlying3;obtain ⟨u,rfl⟩ := f.bool Try.underlying4;obtain ⟨v,rfl,_⟩ := g.int Try.underlying3;obtain ⟨q,rfl,hq⟩ := i.int Try.underlying3;refine ⟨⟨x,dval d2,rs,y,z,u,v,q⟩,rfl,?_,h1,?_,(wf_i64 hq).2⟩
         ·have h3 : dcs d2 = [dval d2] := by
           rcases b.slice Try.underlying37 with rfl | ⟨elems,rest,rfl,he⟩ <;> rfl
          show dcs _ ++ (dcs d2 ++ (dcs _ ++ (dcs _ ++ (dcs _ ++ (dcs _ ++ (dcs _ ++ [])))))) = _;rw [h3]; rfl
         ·simp only [Rows.uptoBulk,Rows.uptoBulkAll]; omega
theorem arg_nodes (h : Rd enc Try.prog w spare held 24 d) : ∃ x : Nl,dval d = x.d /\ (Rows.uptoBulk d <= 1048576 -> x.ok) := by
 rcases h.slice Try.underlying24 with rfl | ⟨elems,rest,rfl,he⟩
 ·exact ⟨⟨_, []⟩,rfl,fun _ => ⟨.inl ⟨rfl,rfl⟩,fun n hn => (by cases hn),by simp⟩⟩
 ·obtain ⟨l,h1,h2,h3⟩ := sl_of (s := 7) (f := nodC) (Q := fun (n : Nod) x => SlD n.rd 2 (n.rs.map rangeC) /\ n.rs.length <= Rows.uptoBulk x /\ n.kids <= 9223372036854775807) (rest := rest) fun x hx => by
   obtain ⟨a,h1,h2,h3,h4,h5⟩ := arg_nod (he x hx);exact ⟨a,h1,h2,rfl,h3,h4,h5⟩
  refine ⟨⟨_,l⟩,rfl,fun hb => ⟨h1,fun n hn => ?_,?_⟩⟩
  ·obtain ⟨x,hx,h4,h5,h6⟩ := h3 n hn;have := bulk_all hx;simp only [Rows.uptoBulk] at hb;exact ⟨h4,by omega,h6⟩
  ·have := bulk_len elems;simp only [Rows.uptoBulk] at hb;show l.length <= _; omega
end Go.Proofs.Ytnleclohocdkaaa
namespace Go.Proofs.Ytnleclohocdkaaa
open Go.V Go Go.RowKit
def ixF_Qx (fr : Go.V.Fr) (k : Nat) : Go.V.D := Go.V.nth .junk fr.loc k
theorem sameNil_ev {s0 : St} {s : Nat} {x y : D} (hx : V.Rows s0 s x []) (hy : V.Rows s0 2 y []) : Ev pv 57 [x,y] s0 (.bool true) s0 := by
 refine Ev.mk1 rfl fi57 rfl rfl rfl ?_;dsimp only [u3,u4,List.length,Nat.reduceSub,Nat.reduceAdd,w1,w2];obtain ⟨hSb,hF,hH⟩ := ri s0;generalize enterSt .ro s0 = S at *;have hxa := Arg.of hx hSb;have hya := Arg.of hy hSb;refine qq ?_;refine qj fun K hK => ?_;refine qm ?_;refine qe hK ?_;refine qq ?_;refine qq ?_;refine qj fun K hK => ?_;refine qm ?_;refine EvO.rlen rfl (ev rfl) (hxa.rows hH) rfl (put_T rfl _) ?_;refine qm ?_;refine EvO.rlen rfl (ev rfl) (hya.rows hH) rfl (put_T rfl _) ?_;refine qg ?_;refine qe hK ?_;refine EvC.cond (v := false) (by dsimp only [Fr.ev,Fr.get,nth,V.look]; rfl) (fun h => by cases h) (fun _ => ?_);refine EvC.skip ?_;refine qq ?_;refine qq ?_;refine qj fun K hK => ?_;refine qm ?_;refine qe hK ?_;refine EvC.block ?_;refine EvC.loop (fun mm fr st => fr.clean = ⟨6, [x,y,ixF_Qx fr 2,ixF_Qx fr 3,ixF_Qx fr 4, .int .i64 0], []⟩ /\ Has s0.bs.length S st [] /\ (True)) (0) ?_ ?_
 ·exact ⟨rfl,hH,trivial⟩
 rintro mm fr st ⟨hfr,hH,ht⟩;rw [hfr];clear hfr;generalize ixF_Qx fr = ee;clear fr;refine qq ?_;refine qq ?_;refine qj fun K hK => ?_;refine qm ?_;refine qm ?_;refine EvO.rlen rfl (ev rfl) (hxa.rows hH) rfl (put_T rfl _) ?_;refine qg ?_;refine qe hK ?_;refine EvC.cond (v := false) (by dsimp only [Fr.ev,Fr.get,nth,V.look]; rfl) (fun h => by cases h) (fun _ => ?_);refine EvC.exit ?_;refine qq ?_;refine qj fun K hK => ?_;refine qm ?_;refine qe hK ?_;refine EvC.ret ⟨rx,_,rfl,rl hSb hH (rfl)⟩
theorem rows_cellsQ {st : St} {s : Nat} {x : D} {es : List (List D)} (h : V.Rows st s x es) : x.cells? = some [x] := by cases h <;> rfl
def insR (st : St) (i : PIns) : Prop := ∃ s,V.Rows st s i.rd (i.rs.map rangeC) /\ (i.rs = [] \/ s = 2)
theorem RdV.r {st : St} {ks : Nat -> Prop} {i : PIns} (h : RdV st ks i.rd i.rs) : insR st i := by
 obtain ⟨s,h1,h2,_⟩ := h;exact ⟨s,h1.rows,h2⟩
theorem insR.to {s0 S st : St} {H : List Ent} {i : PIns} (h : insR s0 i) (hS : S.bs = s0.bs) (hH : Has s0.bs.length S st H) : insR st i := by
 obtain ⟨s,h1,h2⟩ := h;exact ⟨s,(Arg.of h1 hS).rows hH,h2⟩
theorem sameIns_ev {s0 : St} {i c : PIns} (h : insR s0 i) (hc : c.ok) (he : i.rs = c.rs) : Ev pv 57 [i.rd,c.rd] s0 (.bool true) s0 := by
 obtain ⟨s,h1,h2⟩ := h;have hcr := hc.1.rows s0;rw [<- he] at hcr
 by_cases h0 : i.rs = []
 ·rw [h0] at h1 hcr;exact sameNil_ev h1 hcr
 ·have h3 : s = 2 := h2.resolve_left h0;subst h3;have hl : i.rs.length <= 1073741824 := by rw [he]; exact Nat.le_trans hc.2 (by decide)
  have := sameRange_ev (s0 := s0) h1 hcr hl hl
  rwa [decide_eq_true rfl] at this
theorem progsR_ev {s0 : St} {P Q : Pg} (hpc : V.Rows s0 4 P.cd (P.code.map insC)) (hps : V.Rows s0 1 P.sd (P.starts.map intC)) (hpi : ∀ i ∈ P.code,insR s0 i) (hQ : Q.ok) (hcd : P.code.map insP = Q.code.map insP) (hst : P.starts = Q.starts) : Ev pv 21 [P.d,Q.d] s0 (.bool true) s0 := by
 have hcl := hQ.cl;have hsl := hQ.sl;have hc1 := hQ.c.ref;have hs1 := hQ.s.ref;have hln : P.code.length = Q.code.length := by have := congrArg List.length hcd; simpa using this
 have hrf0 : refs [Q.cd,Q.sd] = 0 := by simp [refs,hc1,hs1]
 have hcp := rows_cellsQ hpc;have hcp2 := rows_cellsQ hps
 have hsame : ∀ (st : St),V.Rows st 1 P.sd (P.starts.map intC) -> Ev pv 46 [P.sd,Q.sd] st (.bool true) st := fun st h => by
  have := sameInt_ev (s0 := st) h (hQ.s.rows st) (by rw [hst]; exact Nat.le_trans hsl (by decide)) (Nat.le_trans hsl (by decide))
  rwa [decide_eq_true hst] at this
 refine Ev.mk1 rfl fi21 rfl rfl rfl ?_;dsimp only [u3,u4,List.length,Nat.reduceSub,Nat.reduceAdd,w1,w2];obtain ⟨hSb,hF,hH⟩ := ri s0;generalize enterSt .ro s0 = S at *;have hpa := Arg.of hpc hSb;have hpb := Arg.of hps hSb;have hqa := hQ.c.arg s0.bs.length S;have hqb := hQ.s.arg s0.bs.length S;refine qq ?_;refine qj fun K hK => ?_;refine qb hH fun k2 st hk2 hH => ?_;dsimp only [u2,u1,u3,u4,setMany,u5,u6,D.cells,Nat.reduceAdd,insC,Pg.d,Pg.cs] at hH;refine qb hH fun k3 st hk3 hH => ?_;dsimp only [u2,u1,u3,u4,setMany,u5,u6,D.cells,Nat.reduceAdd,insC,Pg.d,Pg.cs] at hH;refine qm ?_;refine qe hK ?_;have hg7 : (((P.code.length : Nat) : Int) != ((Q.code.length : Nat) : Int)) = false := by rw [hln]; simp
 refine qq ?_;refine qq ?_;refine qj fun K hK => ?_;refine qp (o := 0) ?_;refine ql hH at1 ?_;refine qn ?_;simp only [List.length_map];refine qp (o := 0) ?_;refine ql hH at0 ?_;refine qn ?_;simp only [List.length_map];refine qg ?_;refine qm ?_;refine qp (o := 1) ?_ (hg := wi hg7);refine ql hH at1 ?_ (hg := wi hg7);refine qp (o := 1) ?_ (hg := wi hg7);refine ql hH at0 ?_ (hg := wi hg7);refine qv (hsame _ (hpb.rows hH)) ?_ (hg := wi hg7);refine qg ?_ (hg := wi hg7);refine qu hg7 ?_;refine qe hK ?_;refine EvC.cond (v := false) (by dsimp only [Fr.ev,Fr.get,nth,V.look]; rfl) (fun h => by cases h) (fun _ => ?_);refine EvC.skip ?_;refine qq ?_;refine qq ?_;refine qj fun K hK => ?_;refine qm ?_;refine qe hK ?_;refine EvC.block ?_;refine EvC.loop (fun mm fr st => ∃ (i : Nat),fr.clean = ⟨8, [ixF_Qx fr 0,ixF_Qx fr 1, .ptr k2 0 0, .ptr k3 0 0,ixF_Qx fr 4, .int .i64 (i : Nat),ixF_Qx fr 6,ixF_Qx fr 7], []⟩ /\ Has s0.bs.length S st (.box k3 (.mem 0 false [Q.cd,Q.sd]) :: .box k2 (.mem 0 false [P.cd,P.sd]) :: []) /\ (i + mm = P.code.length)) (P.code.length) ?_ ?_
 ·exact ⟨0,rfl,hH,by omega⟩
 rintro mm fr st ⟨i,hfr,hH,hi⟩;rw [hfr];clear hfr;generalize ixF_Qx fr = ee;clear fr;refine qq ?_;refine qq ?_;refine qj fun K hK => ?_;refine qm ?_;refine qp (o := 0) ?_;refine ql hH at1 ?_;refine qn ?_;simp only [List.length_map];refine qg ?_;refine qe hK ?_
 by_cases hil : i < P.code.length
 ·obtain ⟨x,hx⟩ : ∃ x,P.code[i]? = some x := ⟨P.code[i]'hil,List.getElem?_eq_getElem _⟩
  obtain ⟨y,hy⟩ : ∃ y,Q.code[i]? = some y := ⟨Q.code[i]'(by omega),List.getElem?_eq_getElem _⟩
  have hxy : insP x = insP y := by
   have := congrArg (fun l => l[i]?) hcd;simp only [List.getElem?_map,hx,hy,Option.map_some,Option.some.injEq] at this;exact this
  obtain ⟨ho,hx1,hy1,hrs⟩ : x.op = y.op /\ x.x = y.x /\ x.y = y.y /\ x.rs = y.rs := by
   unfold insP at hxy;simp only [Prod.mk.injEq] at hxy;exact hxy
  have hxo := hpi x (List.mem_of_getElem? hx);have hyo := hQ.i y (List.mem_of_getElem? hy);have hrx := ins_get hx;have hry := ins_get hy;refine qD rfl (by simp; omega) ?_;refine EvC.skip ?_;refine qq ?_;refine EvC.block ?_;change EvC _ _ _ _ _ _;refine qq ?_;generalize hK : SeqQ _ _ _ _ = K;refine EvC.regY rfl ?_;refine EvY.cons ?_;refine qp (o := 0) ?_;refine EvO.nil ⟨rfl,?_⟩;refine EvY.cons ?_;refine ql hH at1 ?_;refine EvO.nil ⟨rfl,?_⟩;refine EvY.cons ?_;refine qm ?_;refine EvO.nil ⟨rfl,?_⟩;refine EvY.cons ?_;refine EvO.ridx rfl (ev rfl) (ev rfl) (hpa.rows hH) rfl rfl hrx (fun _ => (put_T rfl _)) (fun p33 hp33 => ?_);refine EvO.nil ⟨rfl,?_⟩;refine EvY.cons ?_;refine qR ?_;refine EvO.nil ⟨rfl,?_⟩;refine EvY.cons ?_;refine qp (o := 0) ?_;refine EvO.nil ⟨rfl,?_⟩;refine EvY.cons ?_;refine ql hH at0 ?_;refine EvO.nil ⟨rfl,?_⟩;refine EvY.cons ?_;refine qm ?_;refine EvO.nil ⟨rfl,?_⟩;refine EvY.cons ?_;refine EvO.pidx rfl rfl rfl hQ.c rfl rfl hry (put_T rfl _) (fun hp38 => ?_);refine EvO.nil ⟨rfl,?_⟩;refine EvY.cons ?_;refine qR ?_;refine EvO.nil ⟨rfl,?_⟩;refine EvY.cons ?_;refine qa hH fun k6 st hk6 hH => ?_;refine EvO.nil ⟨rfl,?_⟩;refine EvY.cons ?_;refine qa hH fun k7 st hk7 hH => ?_;refine EvO.nil ⟨rfl,?_⟩;refine EvY.cons ?_;refine qS hH at1 fun st hH => ?_;dsimp only [u2,u1,u3,u4,setMany,u5,u6,D.cells,Nat.reduceAdd,insC,Pg.d,Pg.cs] at hH;refine EvO.nil ⟨by exact Bool.and_eq_true_iff.2 ⟨(by exact chk_still rfl rfl rfl (Has.at (by assumption) at2) (Has.at (by assumption) at2) (Has.at (by assumption) at0) hrf0),Bool.and_eq_true_iff.2 ⟨(by exact chk_still0 rfl rfl (slBoxC hQ.c)),Bool.and_eq_true_iff.2 ⟨(by exact chk_still0 rfl rfl rfl),rfl⟩⟩⟩,?_⟩;refine EvY.cons ?_;refine qS hH at0 fun st hH => ?_;dsimp only [u2,u1,u3,u4,setMany,u5,u6,D.cells,Nat.reduceAdd,insC,Pg.d,Pg.cs] at hH;refine EvO.nil ⟨rfl,?_⟩;refine EvY.nil ?_;subst hK;have hg5 : (x.op != y.op) = false := by simp [ho]
  have hg12 : (x.x != y.x) = false := by simp [hx1]
  have hg19 : (x.y != y.y) = false := by simp [hy1]
  have hsr := sameIns_ev (s0 := st) (hxo.to hSb hH) hyo hrs;refine qq ?_;refine qj fun K hK => ?_;refine qp (o := 0) ?_;refine ql hH at1 ?_;refine qp (o := 0) ?_;refine ql hH at0 ?_;refine qg ?_;refine qm ?_;refine qp (o := 1) ?_ (hg := wi hg5);refine ql hH at1 ?_ (hg := wi hg5);refine qp (o := 1) ?_ (hg := wi hg5);refine ql hH at0 ?_ (hg := wi hg5);refine qg ?_ (hg := wi hg5);refine qu hg5 ?_;refine qm ?_;refine qp (o := 2) ?_ (hg := wi hg12);refine ql hH at1 ?_ (hg := wi hg12);refine qp (o := 2) ?_ (hg := wi hg12);refine ql hH at0 ?_ (hg := wi hg12);refine qg ?_ (hg := wi hg12);refine qu hg12 ?_;refine qm ?_;refine qp (o := 3) ?_ (hg := wi hg19);refine ql hH at1 ?_ (hg := wi hg19);refine qp (o := 3) ?_ (hg := wi hg19);refine ql hH at0 ?_ (hg := wi hg19);refine EvO.hcall (wantD_is rfl rfl rfl hg19) rfl hsr (put_T rfl _) ?_;refine qg ?_ (hg := wi hg19);refine qu hg19 ?_;refine qe hK ?_;refine EvC.cond (v := false) (by dsimp only [Fr.ev,Fr.get,nth,V.look]; rfl) (fun h => by cases h) (fun _ => ?_);refine EvC.skip ?_;refine qj fun K hK => ?_;refine qm ?_;refine EvO.addZ (z := ((i + 1 : Nat) : Int)) rfl (ev rfl) (ev rfl) (by (try simp only [List.length_reverse,List.length_cons,List.length_nil,List.length_append,List.length_map,List.length_set]); rw [wrap_i64 (by omega) (by omega)] <;> omega) (put_T rfl _) ?_;refine qm ?_;refine qe hK ?_;exact ⟨mm - 1,by omega,⟨i + 1,rfl,hH.drop 2,by omega⟩⟩
 ·refine qE rfl (by simp; omega) ?_;refine EvC.exit ?_;refine qq ?_;refine qj fun K hK => ?_;refine qm ?_;refine qe hK ?_;refine EvC.ret ⟨rx,_,rfl,rl hSb hH (rfl)⟩
section
variable {H : Type} {enc : TypeId × Value -> H} {w : World} {spare : Nat -> Bool} {held : Bool} {d : DataW H}
theorem arg_nodess (h : Rd enc Try.prog w spare held 23 d) : ∃ (y : D) (l : List Nl),dval d = y /\ SlD y 1 (l.map nlC) /\ (Rows.uptoBulk d <= 1048576 -> l.length <= 1048576 /\ ∀ r ∈ l,r.ok) := by
 rcases h.slice Try.underlying23 with rfl | ⟨elems,rest,rfl,he⟩
 ·exact ⟨_, [],rfl,sl_nil,fun _ => by simp⟩
 ·obtain ⟨l,h1,h2,h3⟩ := sl_of (s := 1) (f := nlC) (Q := fun (n : Nl) x => Rows.uptoBulk x <= 1048576 -> n.ok) (rest := rest) fun x hx => by
   obtain ⟨a,e1,e2⟩ := arg_nodes (he x hx)
   have hc : (dval x).cells? = some (dval x).cells /\ (dval x).cells = [dval x] := by
    rcases (he x hx).slice Try.underlying24 with rfl | ⟨_,_,rfl,_⟩ <;> exact ⟨rfl,rfl⟩
   exact ⟨a,hc.1,by rw [hc.2,e1]; rfl,rfl,e2⟩
  refine ⟨_,l,rfl,h1,fun hb => ⟨?_,fun p hp => ?_⟩⟩
  ·have := bulk_len elems;simp only [Rows.uptoBulk] at hb;omega
  ·obtain ⟨x,hx,hq⟩ := h3 p hp;have := bulk_all hx;simp only [Rows.uptoBulk] at hb;exact hq (by omega)
end
end Go.Proofs.Ytnleclohocdkaaa
