/- own -/
import Derived.Test.YtapfahlbkhgdpaaTDig
import Derived.Test.YtapfahlbkhgdpaaTGHr
import Derived.Test.YtapfahlbkhgdpaaTM2
set_option linter.unusedSimpArgs false
set_option linter.unusedVariables false
namespace Go.Proofs.Ytapfahlbkhgdpaa
open Go.V Go Go.RowKit
def runesD : List D -> Option (List Int)
 | [] => some []
 | .agg [.int .i32 r, .int .i64 _] :: l => match runesD l with
  | some rs => some (r :: rs)
  | none => none
 | _ => none
def digQ (st : St) (k ver off : Nat) (rs : List Int) (i : Int) : Option (D × St) :=
 match decide (rs ≠ [] /\ 0 <= i /\ i.toNat <= rs.length /\ rs.length < 1099511627776) with
 | true => match st.wr k ver (off + 2) [.int .i64 ((i.toNat + (digS (rs.drop i.toNat) []).2 : Nat))] with
  | some st' => some (.tup [.str (digS (rs.drop i.toNat) []).1, .bool (decide (0 < (digS (rs.drop i.toNat) []).2))],st')
  | none => none
 | false => none
def digP : List D -> St -> Option (D × St)
 | [.ptr k ver off],st => match st.mem? k ver with
  | some (_,c) => match c[off]?,c[off + 2]? with
   | some (.sl es),some (.int .i64 i) => match runesD es with
    | some rs => digQ st k ver off rs i
    | none => none
   | _,_ => none
  | none => none
 | _,_ => none
theorem digP_some {ds : List D} {st : St} {r : D × St} (h : digP ds st = some r) : ∃ k ver off ar c es i rs,ds = [.ptr k ver off] /\ st.mem? k ver = some (ar,c) /\ c[off]? = some (.sl es) /\ c[off + 2]? = some (.int .i64 i) /\ runesD es = some rs /\
  (rs ≠ [] /\ 0 <= i /\ i.toNat <= rs.length /\ rs.length < 1099511627776) /\ st.wr k ver (off + 2) [.int .i64 ((i.toNat + (digS (rs.drop i.toNat) []).2 : Nat))] = some r.2 /\ r.1 = .tup [.str (digS (rs.drop i.toNat) []).1, .bool (decide (0 < (digS (rs.drop i.toNat) []).2))] := by
 unfold digP at h
 split at h
 ·rename_i st0 k ver off
  split at h
  ·rename_i ar c hm
   split at h
   ·rename_i es i h1 h2
    split at h
    ·rename_i rs h3
     unfold digQ at h
     split at h
     ·rename_i hc
      split at h
      ·rename_i st' hw
       cases h
       exact ⟨k,ver,off,ar,c,es,i,rs,rfl,hm,h1,h2,h3,of_decide_eq_true hc,hw,rfl⟩
      ·cases h
     ·cases h
    ·cases h
   ·cases h
  ·cases h
 ·cases h
theorem runesD_spec : ∀ {es : List D} {rs : List Int},runesD es = some rs -> rs.length = es.length /\ ∀ (j : Nat) r,rs[j]? = some r -> ∃ n,es[j]? = some (.agg [.int .i32 r, .int .i64 n])
 | [],rs,h => by simp only [runesD] at h; cases h; exact ⟨rfl,fun j r h => by simp at h⟩
 | e :: es,rs,h => by
  unfold runesD at h
  split at h
  ·rename_i heq; cases heq
  ·rename_i r n l heq
   cases heq
   split at h
   ·rename_i rs' h'
    cases h
    obtain ⟨h1,h2⟩ := runesD_spec h'
    refine ⟨by simp [h1],fun j r' hj => ?_⟩
    cases j with
    | zero => simp at hj; subst hj; exact ⟨n,rfl⟩
    | succ j => simpa using h2 j r' (by simpa using hj)
   ·cases h
  ·cases h
theorem Nx.quiet {w w' : World} {st : St} {β : Nat -> Option (Nat × Nat)} {Z : Nat -> Prop} (h : Sim w st β Z) (hb : Below w.heap.size w w') : Nx w st β Z w' st β Z := by
 have hq : Quiet w w' := fun b hb' => hb.block b hb'
 have hk : Keeps w (st.x β Z) w' (st.x β Z) :=
  ⟨fun _ p hp => ⟨p,hp⟩,fun b hb => ⟨hb,hq b (h.zl b hb)⟩,fun _ c _ _ hc => ⟨c,hc,Nat.le_refl _⟩,fun k _ _ _ b base hb => ⟨hb,rowSize_eq (hq b (h.lt k b base hb))⟩⟩
 exact ⟨⟨h.dom,fun k b base hb' => Nat.lt_of_lt_of_le (h.lt k b base hb') hb.size,h.inj,h.zd,fun b hb' => Nat.lt_of_lt_of_le (h.zl b hb') hb.size,fun k b base bx hb' hbx => (h.box k b base bx hb' hbx).keep hk (hq b (h.lt k b base hb')),h.flr,h.ro,hk.gl h.gl⟩,hk,
  ⟨hb.os,hb.tape,hb.output,hb.size,fun b hb' _ => hq b hb'⟩,fun _ _ base hb => .inl ⟨base,hb⟩,fun _ hz => .inl hz,Nat.le_refl _,rfl,rfl,fun _ _ => ⟨rfl,rfl⟩,fun _ _ h => ⟨h,rfl⟩⟩
theorem setCell_put {w : World} {b o : Nat} {cs : Array Value} {el : TypeId} {fr : Nat × Nat} {v : Value} (h : w.heap[b]? = some (.cells cs el fr)) : w.setCell ⟨b,o,none⟩ v = wput w b (.cells (cs.setIfInBounds o v) el fr) := by
 have hb : b < w.heap.size := (Array.getElem?_eq_some_iff.1 h).1
 have key : (w.setCell ⟨b,o,none⟩ v).heap = w.heap.setIfInBounds b (.cells (cs.setIfInBounds o v) el fr) := by
  simp only [World.setCell]
  apply Array.ext_getElem?
  intro j
  rw [Array.getElem?_modify]
  by_cases hj : b = j
  ·subst hj
   rw [if_pos rfl,h,Array.getElem?_setIfInBounds_self_of_lt hb]; rfl
  ·rw [if_neg hj,Array.getElem?_setIfInBounds_ne hj]
 have : w.setCell ⟨b,o,none⟩ v = { w with heap := (w.setCell ⟨b,o,none⟩ v).heap } := rfl
 rw [this,key]; rfl
theorem digP_ok {pv : Pv} (hro : isRo pv 62 = false) : PrimOk Try.prog pv 62 digP := by
 refine ⟨fun ds st r hp => ?_,fun ds st d st' hp w β Z us hsim hle ha => ?_,fun ds st d st' hp hr => ?_,fun ds st d st' hp => ?_⟩
 ·exact ⟨Try.f62,_,Try.func62,rfl,by decide⟩
 ·obtain ⟨k,ver,off,ar,c,es,i,rs,rfl,hm,h1,h2,h3,⟨hne,hi0,hil,hn⟩,hw,hd⟩ := digP_some hp
  obtain ⟨u,rfl⟩ : ∃ u,us = [u] := by
   match us,hle with
   | [u],_ => exact ⟨u,rfl⟩
  have hu := ha 0 _ u rfl rfl
  obtain ⟨a,rfl,hk,hat⟩ := vr_pointer hu
  obtain ⟨b,base,hb,rfl⟩ := hat (mem_spec hm).2
  obtain ⟨cs,el,fr,r1,r2,r3,r4⟩ := hsim.row hm hb
  obtain ⟨u0,c0,c1,c2⟩ := r4 off _ h1
  obtain ⟨u2,d0,d1,d2⟩ := r4 (off + 2) _ h2
  have hiv := vr_int d2
  subst hiv
  obtain ⟨s1,s2⟩ := runesD_spec h3
  have hes : es ≠ [] := fun e => by subst e; simp at s1; exact hne s1
  obtain ⟨la,cap,rfl,hcap,hor⟩ := vr_sl c2
  obtain ⟨bl,ol,s,rfl,hz,hcl,hca,f,hf1,hf2⟩ := hor.resolve_left hes
  have hbl : bl < w.heap.size := hsim.zl bl hz
  have hbb : b < w.heap.size := hsim.lt k b base hb
  have hnb : bl ≠ b := fun e => hsim.zd k b base hb (e ▸ hz)
  have hs2 : s = 2 := by
   cases es with
   | nil => exact absurd rfl hes
   | cons e es' =>
    cases rs with
    | nil => simp at s1
    | cons r rs' =>
     obtain ⟨n,hn⟩ := s2 0 r rfl
     have := (hcl 0 _ hn).2
     simpa [D.cells] using this.symm
  subst hs2
  have hcell : ∀ (q : Nat) u,cs[q]? = some u -> w.cell? ⟨b,q,none⟩ = some u := fun q u hq => by simp [World.cell?,r1,hq]
  have hwalk := digits_walk w b (base + off) bl ol cap rs i.toNat (by rw [s1]; exact hcell _ _ c0) (by
    have := hcell _ _ d0
    rw [show base + off + 2 = base + (off + 2) by omega,this]
    congr 2; omega) (by
    simp only [World.frozen?,r1]
    have hlt : base + off + 2 < cs.size := by
     have := (Array.getElem?_eq_some_iff.1 d0).1; omega
    have := r3.2 (base + off + 2) hlt
    simp only [Bool.and_eq_false_iff,decide_eq_false_iff_not]
    omega) (fun j r hj => by
    obtain ⟨n,hn⟩ := s2 j r hj
    obtain ⟨g1,_⟩ := hf1 j _ 0 (.int .i32 r) hn rfl
    have g3 := hf2 j _ 0 (.int .i32 r) hn rfl
    rw [Nat.add_zero] at g1
    rw [g1]
    generalize f j 0 = z at g3
    cases g3; rfl) hnb hbl hbb hil hn
  rw [show base + off + 2 = base + (off + 2) by omega,setCell_put r1] at hwalk
  generalize hcnt : (digS (rs.drop i.toNat) []).2 = cnt at *
  generalize hstr : (digS (rs.drop i.toNat) []).1 = str at *
  simp only at hw hd
  have hlt : base + (off + 2) < cs.size := (Array.getElem?_eq_some_iff.1 d0).1
  have hwr : Nx w st β Z (wput w b (.cells (cs.setIfInBounds (base + (off + 2)) (.int .i64 ((i.toNat + cnt : Nat)))) el fr)) st' β Z := by
   have hw2 := hw
   unfold St.wr at hw
   rw [hm] at hw
   simp only at hw
   split at hw
   ·rename_i hc
    cases hw
    have hcl2 : off + 2 < c.length := lt_of_some h2
    have hx := Nx.write (a' := ar) (ver' := ver) (c' := setMany c (off + 2) [.int .i64 ((i.toNat + cnt : Nat))]) (base' := base) hsim hm hb (canW_ro hc.2) (Nat.le_refl _) (fun _ => rfl) r1 (cs' := cs.setIfInBounds (base + (off + 2)) (.int .i64 ((i.toNat + cnt : Nat)))) (by simp) (by rw [setMany_length]; exact r2) (fun j d hd => by
     simp only [setMany] at hd
     by_cases hj : off + 2 = j
     ·subst hj
      rw [List.getElem?_set_self hcl2] at hd
      cases hd
      refine ⟨.int .i64 ((i.toNat + cnt : Nat)),?_,rfl, .im _ _ (.int _ _)⟩
      rw [Array.getElem?_setIfInBounds_self_of_lt hlt]
     ·rw [List.getElem?_set_ne hj] at hd
      obtain ⟨u,hu1,hu2,hu3⟩ := r4 j d hd
      exact ⟨u,by rw [Array.getElem?_setIfInBounds_ne (by omega)]; exact hu1,hu2,hu3⟩)
    have e1 : (fun i => if i = k then some (b,base) else β i) = β := by
     funext i; split
     ·rename_i e; subst e; exact hb.symm
     ·rfl
    rw [e1] at hx
    exact hx
   ·cases hw
  refine hwalk.mono ?_
  rintro e w' ⟨rfl,hbel⟩
  have hbel2 : Below (wput w b (.cells (cs.setIfInBounds (base + (off + 2)) (.int .i64 ((i.toNat + cnt : Nat)))) el fr)).heap.size (wput w b (.cells (cs.setIfInBounds (base + (off + 2)) (.int .i64 ((i.toNat + cnt : Nat)))) el fr)) w' := by
   have : (wput w b (.cells (cs.setIfInBounds (base + (off + 2)) (.int .i64 ((i.toNat + cnt : Nat)))) el fr)).heap.size = w.heap.size := by simp [wput]
   rw [this]; exact hbel
  refine ⟨_,β,Z,rfl,hwr.trans (Nx.quiet hwr.sim hbel2),?_,fun h => by rw [hro] at h; cases h⟩
  rw [hd]
  refine .im _ _ (.tup _ [.string ⟨str.toArray⟩, .bool (decide (0 < cnt))] rfl fun q c v hc hv => ?_)
  match q,hc,hv with
  | 0,hc,hv => cases hc; cases hv; exact .str _
  | 1,hc,hv => cases hc; cases hv; exact .bool _
 ·rw [hro] at hr; cases hr
 ·obtain ⟨k,ver,off,ar,c,es,i,rs,rfl,hm,h1,h2,h3,_,hw,hd⟩ := digP_some hp
  exact wr_goes hw
end Go.Proofs.Ytapfahlbkhgdpaa
