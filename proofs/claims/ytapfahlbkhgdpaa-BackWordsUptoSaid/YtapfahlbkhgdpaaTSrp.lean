/- own -/
import Derived.Test.YtapfahlbkhgdpaaTSrt
import Derived.Test.YtapfahlbkhgdpaaTView
import Derived.Test.YtapfahlbkhgdpaaTM2
import Derived.KernelRfl
set_option linter.unusedSimpArgs false
set_option linter.unusedVariables false
namespace Go.Proofs.Ytapfahlbkhgdpaa
open Go.V Go Go.RowKit
def rgD : List D -> Option (List Rs)
 | [] => some []
 | .int .i32 a :: .int .i32 b :: l => match decide (0 <= a),decide (a <= 1114111),rgD l with
  | true,true,some r => if h : 0 <= a /\ a <= 1114111 then some (⟨a,b,h.1,h.2⟩ :: r) else none
  | _,_,_ => none
 | _ => none
def encD : List Rs -> List D
 | [] => []
 | x :: l => .int .i32 x.lo :: .int .i32 x.hi :: encD l
theorem rgD_enc : ∀ l : List Rs,rgD (encD l) = some l
 | [] => rfl
 | x :: l => by simp [encD,rgD,rgD_enc l,x.h0,x.h1]
theorem rgD_spec : ∀ {c : List D} {l : List Rs},rgD c = some l -> c = encD l
 | [],l,h => by cases h; rfl
 | [_],l,h => by
  unfold rgD at h
  split at h
  ·rename_i he; cases he
  ·rename_i he; cases he
  ·cases h
 | d :: e :: c,l,h => by
  unfold rgD at h
  split at h
  ·rename_i he; cases he
  ·rename_i a b m he
   cases he
   split at h
   ·rename_i r h1 h2 h3
    split at h
    ·cases h
     rw [rgD_spec h3]; rfl
    ·cases h
   ·cases h
  ·cases h
theorem encD_len : ∀ l : List Rs,(encD l).length = 2 * l.length
 | [] => rfl
 | x :: l => by simp [encD,encD_len l]; omega
theorem encD_get : ∀ (l : List Rs) (i : Nat) x,l[i]? = some x -> (encD l)[2 * i]? = some (.int .i32 x.lo) /\ (encD l)[2 * i + 1]? = some (.int .i32 x.hi)
 | [],i,x,h => by simp at h
 | y :: l,0,x,h => by simp at h; subst h; exact ⟨rfl,rfl⟩
 | y :: l,i + 1,x,h => by
  have := encD_get l i x (by simpa using h)
  simpa [encD,show 2 * (i + 1) = 2 * i + 1 + 1 by omega] using this
theorem encD_get' (l : List Rs) (j : Nat) (hj : j < 2 * l.length) : ∃ x,l[j / 2]? = some x /\ (encD l)[j]? = some (.int .i32 (if j % 2 = 0 then x.lo else x.hi)) := by
 refine ⟨l[j / 2]'(by omega),List.getElem?_eq_getElem _,?_⟩
 obtain ⟨h1,h2⟩ := encD_get l (j / 2) _ (List.getElem?_eq_getElem (by omega))
 rcases Nat.mod_two_eq_zero_or_one j with h | h
 ·rw [if_pos h, <- h1]; congr 1; omega
 ·rw [if_neg (by omega), <- h2]; congr 1; omega
theorem encD_refs : ∀ l : List Rs,refs (encD l) = 0
 | [] => rfl
 | x :: l => by simp [encD,refs,D.ref,encD_refs l]
noncomputable def srtQ (st : St) (k ver off len : Nat) (l : List Rs) : Option (D × St) :=
 match decide (l.length = len /\ 1 <= len /\ len < 1099511627776) with
 | true => match st.wr k ver off (encD (srt l)) with
  | some st' => some (.tup [],st')
  | none => none
 | false => none
noncomputable def srtP : List D -> St -> Option (D × St)
 | [.nul, .fn 55 []],st => some (.tup [],st)
 | [.win k ver off len 2, .fn 55 []],st => match st.mem? k ver with
  | some (_,c) => match rgD ((c.drop off).take (2 * len)) with
   | some l => srtQ st k ver off len l
   | none => none
  | none => none
 | _,_ => none
theorem srtP_some {ds : List D} {st : St} {r : D × St} (h : srtP ds st = some r) : (ds = [.nul, .fn 55 []] /\ r = (.tup [],st)) \/
  ∃ k ver off ar c l,ds = [.win k ver off l.length 2, .fn 55 []] /\ st.mem? k ver = some (ar,c) /\ (c.drop off).take (2 * l.length) = encD l /\ 1 <= l.length /\ l.length < 1099511627776 /\ st.wr k ver off (encD (srt l)) = some r.2 /\ r.1 = .tup [] := by
 unfold srtP at h
 split at h
 ·cases h; exact .inl ⟨rfl,rfl⟩
 ·rename_i st0 k ver off len
  right
  split at h
  ·rename_i ar c hm
   split at h
   ·rename_i l hl
    unfold srtQ at h
    split at h
    ·rename_i hd
     have hd := of_decide_eq_true hd
     split at h
     ·rename_i st' hw
      cases h
      obtain ⟨rfl,h1,h2⟩ := hd
      exact ⟨k,ver,off,ar,c,l,rfl,hm,rgD_spec hl,h1,h2,hw,rfl⟩
     ·cases h
    ·cases h
   ·cases h
  ·cases h
 ·cases h
theorem nulSort : (match callD pv0 60 54 [.nul, .fn 55 []] ⟨[],0,0⟩ with | some (.tup [],⟨[],_,_⟩) => true | _ => false) = true := by kernel_rfl
theorem nx_quiet {w w' : World} {st : St} {β : Nat -> Option (Nat × Nat)} {Z : Nat -> Prop} (h : Sim w st β Z) (hb : Below w.heap.size w w') : Nx w st β Z w' st β Z := by
 have hq : Quiet w w' := fun b hb' => hb.block b hb'
 have hk : Keeps w (st.x β Z) w' (st.x β Z) :=
  ⟨fun _ p hp => ⟨p,hp⟩,fun b hb => ⟨hb,hq b (h.zl b hb)⟩,fun _ c _ _ hc => ⟨c,hc,Nat.le_refl _⟩,fun k _ _ _ b base hb => ⟨hb,rowSize_eq (hq b (h.lt k b base hb))⟩⟩
 exact ⟨⟨h.dom,fun k b base hb' => Nat.lt_of_lt_of_le (h.lt k b base hb') hb.size,h.inj,h.zd,fun b hb' => Nat.lt_of_lt_of_le (h.zl b hb') hb.size,fun k b base bx hb' hbx => (h.box k b base bx hb' hbx).keep hk (hq b (h.lt k b base hb')),h.flr,h.ro,hk.gl h.gl⟩,hk,
  ⟨hb.os,hb.tape,hb.output,hb.size,fun b hb' _ => hq b hb'⟩,fun _ _ base hb => .inl ⟨base,hb⟩,fun _ hz => .inl hz,Nat.le_refl _,rfl,rfl,fun _ _ => ⟨rfl,rfl⟩,fun _ _ h => ⟨h,rfl⟩⟩
theorem srtP_ok (hv : pv0.Ok Try.prog /\ pv0.codes /\ CfOk Try.prog pv0 (primF pv0)) {pv : Pv} (hro : isRo pv 54 = false) : PrimOk Try.prog pv 54 srtP := by
 refine ⟨fun ds st r hp => ⟨Try.f54,_,Try.func54,rfl,by decide⟩,fun ds st d st' hp w β Z us hsim hle ha => ?_,fun ds st d st' hp hr => (by rw [hro] at hr; cases hr),fun ds st d st' hp => ?_⟩
 ·rcases srtP_some hp with ⟨rfl,hr⟩ | ⟨k,ver,off,ar,c,l,rfl,hm,hl,hn,hn2,hw,hd⟩
  ·cases hr
   have hs := nulSort
   split at hs
   ·rename_i a b he
    refine (memo_calls hv he rfl rfl st w β Z us hsim hle ha).mono fun e w' => ?_
    rintro ⟨v,β',Z',h1,h2,h3,h4⟩
    exact ⟨v,β',Z',h1,h2,h3,fun _ => h4⟩
   ·cases hs
  ·obtain ⟨u,v,rfl⟩ : ∃ u v,us = [u,v] := by
    match us,hle with
    | [u,v],_ => exact ⟨u,v,rfl⟩
   obtain ⟨a,cap,rfl,hcap,_,_,hat⟩ := vr_win (ha 0 _ u rfl rfl)
   obtain ⟨vs,rfl,hvs,_⟩ := vr_fn (ha 1 _ v rfl rfl)
   have hvs : vs = [] := List.length_eq_zero_iff.1 hvs.symm
   subst hvs
   obtain ⟨b,base,sz,hb,hsz,hor⟩ := hat (mem_spec hm).2
   obtain ⟨rfl,hrow⟩ := hor.resolve_left (by omega)
   obtain ⟨cs,el,fr,r1,r2,r3,r4⟩ := hsim.row hm hb
   have hcget : ∀ (i : Nat) x,l[i]? = some x -> c[off + 2 * i]? = some (.int .i32 x.lo) /\ c[off + (2 * i + 1)]? = some (.int .i32 x.hi) := by
    intro i x hx
    have hi : i < l.length := (List.getElem?_eq_some_iff.1 hx).1
    obtain ⟨h1,h2⟩ := encD_get l i x hx
    rw [<- hl,List.getElem?_take,if_pos (by omega),List.getElem?_drop] at h1 h2
    exact ⟨h1,h2⟩
   have hwalk := sort_calls b (base + off) cap l w r1 r3.2 (fun i x hx => by
    obtain ⟨h1,h2⟩ := hcget i x hx
    obtain ⟨u1,a1,_,c1⟩ := r4 _ _ h1
    obtain ⟨u2,a2,_,c2⟩ := r4 _ _ h2
    have := vr_int c1
    subst this
    have := vr_int c2
    subst this
    exact ⟨by rw [<- a1]; congr 1; omega,by rw [<- a2]; congr 1; omega⟩) (by omega)
   have hperm := (srt_facts l).1
   have hsl : (srt l).length = l.length := hperm.length_eq
   refine hwalk.mono ?_
   rintro e w' ⟨rfl,cs',g1,g2,g3,g4,g5,g6,g7,g8⟩
   have hwr : Nx w st β Z (wput w b (.cells cs' el fr)) st' β Z := by
    unfold St.wr at hw
    rw [hm] at hw
    simp only at hw
    split at hw
    ·rename_i hc
     have hst := Option.some.inj hw
     rw [<- hst]
     have hx := Nx.write (a' := ar) (ver' := ver) (c' := setMany c off (encD (srt l))) (base' := base) hsim hm hb (canW_ro hc.2) (Nat.le_refl _) (fun _ => rfl) r1 (cs' := cs') g1 (by rw [setMany_length]; exact r2) (fun j d hd => by
      rw [setMany_get (encD (srt l)) c off j hc.1] at hd
      split at hd
      ·rename_i hj
       rw [encD_len,hsl] at hj
       obtain ⟨x,hx1,hx2⟩ := encD_get' (srt l) (j - off) (by omega)
       rw [hx2] at hd
       cases hd
       obtain ⟨k1,k2⟩ := g3 _ _ hx1
       split
       ·refine ⟨.int .i32 x.lo,?_,rfl, .im _ _ (.int _ _)⟩
        rw [<- k1]; congr 1; omega
       ·refine ⟨.int .i32 x.hi,?_,rfl, .im _ _ (.int _ _)⟩
        rw [<- k2]; congr 1; omega
      ·rename_i hj
       rw [encD_len,hsl] at hj
       rw [g2 _ (by omega)]
       exact r4 j d hd)
     have e1 : (fun i => if i = k then some (b,base) else β i) = β := by
      funext i; split
      ·rename_i e; subst e; exact hb.symm
      ·rfl
     rw [e1] at hx
     exact hx
    ·cases hw
   have hsame : (wput w b (.cells cs' el fr)).heap.size = w.heap.size := by simp [wput]
   have hbel : Below (wput w b (.cells cs' el fr)).heap.size (wput w b (.cells cs' el fr)) w' := ⟨g4.symm,g5.symm,g6.symm,by rw [hsame]; exact g7,fun k hk => g8 k (by rw [hsame] at hk; exact hk)⟩
   refine ⟨_,β,Z,rfl,hwr.trans (nx_quiet hwr.sim hbel),?_,fun h => by rw [hro] at h; cases h⟩
   simp only at hd
   rw [hd]
   exact .im _ _ (.tup [] [] rfl fun q c v hc hv => by simp at hc)
 ·rcases srtP_some hp with ⟨rfl,hr⟩ | ⟨k,ver,off,ar,c,l,rfl,hm,hl,hn,hn2,hw,hd⟩
  ·cases hr; exact Goes.refl _
  ·exact wr_goes hw
end Go.Proofs.Ytapfahlbkhgdpaa
