/-
 A text has no more runes than bytes.
-/
import Derived.Test.YtecjacicdpejaaaGreatTGHr
import Derived.Test.YtecjacicdpejaaaGreatTPx
import Derived.Test.YtecjacicdpejaaaGreatTM2
import Derived.KernelRfl
set_option maxRecDepth 100000
set_option maxHeartbeats 4000000
set_option linter.unusedSimpArgs false
set_option linter.unusedVariables false
set_option linter.unusedSectionVars false
namespace Go.Proofs.YtecjacicdpejaaaGreat
open Go.V Go
theorem and_low {w a j : Nat} (ha : a < 2 ^ w) (hj : 2 ^ j - 1 < 2 ^ w) : (BitVec.ofInt w (a : Int) &&& BitVec.ofInt w ((2 ^ j - 1 : Nat) : Int)).toNat = a % 2 ^ j := by
 rw [bv_and ha hj, Nat.and_two_pow_sub_one_eq_mod]
theorem byteCells_len (b : List UInt8) : (byteCells b).length = b.length := by simp [byteCells]
theorem byteCells_get {b : List UInt8} {i : Nat} {y : UInt8} (h : b[i]? = some y) : (byteCells b)[i]? = some [.int .u8 (y.toNat : Nat)] := by
 simp [byteCells, h]
/-- the loop's number: six bits more -/
theorem six0 {r y : Nat} (hr : r < 33554432) (hy : y < 256) : wrapD .i32 ((BitVec.ofInt 32 (wrapD .i32 ((r : Int) * 2 ^ (min (Int.toNat 6) 32))) ||| BitVec.ofInt 32 (wrapD .i32 (wrapD .u8 ((BitVec.ofInt 8 (y : Int) &&& BitVec.ofInt 8 63).toNat : Nat)))).toNat : Nat) = ((r * 64 + y % 64 : Nat) : Int) := by
 have h1 : (BitVec.ofInt 8 (y : Int) &&& BitVec.ofInt 8 63).toNat = y % 64 := and_low (w := 8) (j := 6) hy (by decide);rw [h1]
 have h2 : ((r : Int) * 2 ^ (min (Int.toNat 6) 32)) = ((r * 64 : Nat) : Int) := by
  have : (2 : Int) ^ (min (Int.toNat 6) 32) = 64 := by decide
  rw [this]; simp
 rw [h2, wrap_nat (k := .i32) (m := r * 64) (by simp only [maxN]; omega), wrap_nat (k := .u8) (m := y % 64) (by simp only [maxN]; omega), wrap_nat (k := .i32) (m := y % 64) (by simp only [maxN]; omega)];rw [bv_or (by omega) (by omega)]
 have h3 : (r * 64) ||| (y % 64) = r * 64 + y % 64 := by
  have := Nat.two_pow_add_eq_or_of_lt (i := 6) (b := y % 64) (by omega) r;have e : (2 : Nat) ^ 6 = 64 := by decide
  rw [e] at this;rw [Nat.mul_comm r 64, this]
 rw [h3, wrap_nat (k := .i32) (m := r * 64 + y % 64) (by simp only [maxN]; omega)]
theorem six {r y : Nat} (hr : r < 33554432) (hy : y < 256) : wrapD .i32 ((BitVec.ofInt IntKind.i32.bits (wrapD .i32 ((r : Int) * 2 ^ (min (Int.toNat 6) IntKind.i32.bits))) ||| BitVec.ofInt IntKind.i32.bits (wrapD .i32 (wrapD .u8 ((BitVec.ofInt IntKind.u8.bits (y : Int) &&& BitVec.ofInt IntKind.u8.bits 63).toNat : Nat)))).toNat : Nat) = ((r * 64 + y % 64 : Nat) : Int) := six0 hr hy
def kF : Nat → Nat → Nat
  | 0, _ => 0
  | f + 1, m => if m = 0 then 0 else kF f (m / 256) + 1
def kB (m : Nat) : Nat := kF 8 m
def beB : Nat → Nat → List UInt8
  | 0, _ => []
  | k + 1, m => UInt8.ofNat (m / 256 ^ k) :: beB k m
def numB (n : Int) : List UInt8 := UInt8.ofNat (kB n.toNat) :: beB (kB n.toNat) n.toNat
theorem kF_le : ∀ f m, kF f m ≤ f
  | 0, _ => Nat.le_refl _
  | f + 1, m => by
    unfold kF
    split
    · omega
    · have := kF_le f (m / 256); omega
theorem kB_le (m : Nat) : kB m ≤ 8 := kF_le 8 m
theorem beB_len : ∀ k m, (beB k m).length = k
  | 0, _ => rfl
  | k + 1, m => by simp only [beB, List.length_cons, beB_len k m]
theorem numB_len (n : Int) : (numB n).length = kB n.toNat + 1 := by simp only [numB, List.length_cons, beB_len]
theorem numB_le (n : Int) : (numB n).length ≤ 9 := by rw [numB_len]; have := kB_le n.toNat; omega
theorem kF_spec : ∀ f m, m < 256 ^ f → m / 256 ^ kF f m = 0 ∧ ∀ j, j < kF f m → 0 < m / 256 ^ j
  | 0, m, h => by
    have : m = 0 := by simpa using h
    subst this
    exact ⟨by simp [kF], fun j hj => by simp [kF] at hj⟩
  | f + 1, m, h => by
    unfold kF
    split
    · rename_i h0
      subst h0
      exact ⟨by simp, fun j hj => by omega⟩
    · rename_i h0
      have hd : m / 256 < 256 ^ f := by
        rw [Nat.pow_succ] at h
        exact Nat.div_lt_of_lt_mul (by omega)
      obtain ⟨h1, h2⟩ := kF_spec f (m / 256) hd
      refine ⟨by rw [Nat.pow_succ, Nat.mul_comm, ← Nat.div_div_eq_div_mul]; exact h1, fun j hj => ?_⟩
      cases j with
      | zero => simp; omega
      | succ j => rw [Nat.pow_succ, Nat.mul_comm, ← Nat.div_div_eq_div_mul]; exact h2 j (by omega)
theorem kB_spec {m : Nat} (h : m < 256 ^ 8) : m / 256 ^ kB m = 0 ∧ ∀ j, j < kB m → 0 < m / 256 ^ j := kF_spec 8 m h
def valB (u : Nat) : List UInt8 → Nat
  | [] => u
  | c :: l => valB (u * 256 + c.toNat) l
theorem valB_lt : ∀ (l : List UInt8) (u : Nat), valB u l < (u + 1) * 256 ^ l.length
  | [], u => by simp [valB]
  | c :: l, u => by
    simp only [valB, List.length_cons]
    have h1 := valB_lt l (u * 256 + c.toNat)
    have h2 : c.toNat < 256 := c.toNat_lt
    rw [Nat.pow_succ, Nat.mul_comm (256 ^ l.length) 256, ← Nat.mul_assoc]
    refine Nat.lt_of_lt_of_le h1 (Nat.mul_le_mul_right _ ?_)
    omega
structure Rdr where
  at_ : Nat
  e : Int
def numR (b : List UInt8) (s : Rdr) : Int × Rdr :=
  if s.e ≠ 0 then (0, s) else
  match b.drop s.at_ with
  | [] => (0, ⟨s.at_, 3⟩)
  | k :: rest =>
    if 8 < k.toNat then (0, ⟨s.at_, 4⟩)
    else if rest.length < k.toNat then (0, ⟨s.at_, 3⟩)
    else if (0 < k.toNat ∧ rest.head? = some 0) ∨ 9223372036854775808 ≤ valB 0 (rest.take k.toNat) then (0, ⟨s.at_, 4⟩)
    else ((valB 0 (rest.take k.toNat) : Nat), ⟨s.at_ + 1 + k.toNat, 0⟩)
def uptoR (b : List UInt8) (most : Int) (s : Rdr) : Int × Rdr :=
  if (numR b s).2.e = 0 ∧ (numR b s).1 > most then (0, ⟨s.at_, 2⟩) else numR b s
def textR (b : List UInt8) (most : Int) (s : Rdr) : List UInt8 × Rdr :=
  if (uptoR b most s).2.e ≠ 0 then ([], (uptoR b most s).2)
  else if ((b.length : Int) - (uptoR b most s).2.at_) < (uptoR b most s).1 then ([], ⟨s.at_, 3⟩)
  else ((b.drop (uptoR b most s).2.at_).take (uptoR b most s).1.toNat, ⟨(uptoR b most s).2.at_ + (uptoR b most s).1.toNat, 0⟩)
def itemsR (b : List UInt8) (most : Int) (s : Rdr) : Int × Rdr :=
  if (uptoR b most s).2.e = 0 ∧ (uptoR b most s).1 > (b.length : Int) - (uptoR b most s).2.at_ then ((uptoR b most s).1, ⟨s.at_, 3⟩) else uptoR b most s
def Rdr.ok (b : List UInt8) (s : Rdr) : Prop := s.at_ ≤ b.length
theorem numR_ok {b : List UInt8} {s : Rdr} (h : s.ok b) : (numR b s).2.ok b ∧ s.at_ ≤ (numR b s).2.at_ ∧ 0 ≤ (numR b s).1 ∧ (numR b s).1 < 9223372036854775808 ∧ ((numR b s).2.e ≠ 0 → (numR b s).1 = 0 ∧ (numR b s).2.at_ = s.at_) := by
  unfold numR Rdr.ok at *
  split
  · exact ⟨h, Nat.le_refl _, by simp, by simp, fun _ => ⟨rfl, rfl⟩⟩
  · split
    · exact ⟨h, Nat.le_refl _, by simp, by simp, fun _ => ⟨rfl, rfl⟩⟩
    · rename_i k rest hd
      have hl := congrArg List.length hd
      simp only [List.length_drop, List.length_cons] at hl
      split
      · exact ⟨h, Nat.le_refl _, by simp, by simp, fun _ => ⟨rfl, rfl⟩⟩
      · split
        · exact ⟨h, Nat.le_refl _, by simp, by simp, fun _ => ⟨rfl, rfl⟩⟩
        · split
          · exact ⟨h, Nat.le_refl _, by simp, by simp, fun _ => ⟨rfl, rfl⟩⟩
          · rename_i h5
            have : ¬ 9223372036854775808 ≤ valB 0 (rest.take k.toNat) := fun h => h5 (.inr h)
            exact ⟨by show s.at_ + 1 + k.toNat ≤ _; omega, by show s.at_ ≤ s.at_ + 1 + k.toNat; omega, by simp only; omega, by simp only; omega, fun h => absurd rfl h⟩
end Go.Proofs.YtecjacicdpejaaaGreat
namespace Go.V
def prtD (x : D) (l r : Nat) : D := match x with
  | .win k ver off _ s => .win k ver (off + l * s) (r - l) s
  | .sl es => .sl ((es.take r).drop l)
  | d => d
theorem Rows.prt {P : Pv} {st : St} {s : Nat} {x : D} {es : List (List D)} (h : Rows st s x es) {t e : TypeId} (ht : P.und t = some (.slice e)) (hs : szOf P e = some s) {lo hi : Option D} {l r : Nat} (hb : boundsD es.length lo hi = some (l, r)) (hlr : l ≤ r ∧ r ≤ es.length) (st2 : St) :
    sliceD P t x lo hi st2 = some (prtD x l r) := by
  cases h with
  | nul =>
    simp only [sliceD, ht, hs, Option.bind_some]
    simp only [List.length_nil] at hb
    rw [hb]; rfl
  | sl es h =>
    simp only [sliceD, ht, hs, Option.bind_some]
    have : headOk s es = true := by
      cases es with
      | nil => rfl
      | cons e es => obtain ⟨h1, h2⟩ := h e (List.mem_cons_self ..); simp [headOk, h1, h2]
    rw [if_pos this]
    simp only [List.length_map] at hb
    rw [hb]; rfl
  | win k ver off es ar c hm hl he =>
    simp only [sliceD, ht, hs, Option.bind_some, if_true, hb]; rfl
theorem Rows.prtR {st : St} {s : Nat} {x : D} {es : List (List D)} (h : Rows st s x es) {l r : Nat} (hlr : l ≤ r ∧ r ≤ es.length) : Rows st s (prtD x l r) ((es.take r).drop l) := by
  cases h with
  | nul => simp only [prtD]; simp; exact .nul
  | sl es h =>
    have := Rows.sl (st := st) (s := s) ((es.take r).drop l) fun e he => h e (List.mem_of_mem_take (List.mem_of_mem_drop he))
    simpa [prtD, List.map_drop, List.map_take] using this
  | win k ver off es ar c hm hl he =>
    have hlen : ((es.take r).drop l).length = r - l := by simp; omega
    have h1 : l * s + (r - l) * s ≤ es.length * s := by rw [← Nat.add_mul]; exact Nat.mul_le_mul_right s (by omega)
    have := Rows.win (st := st) (s := s) k ver (off + l * s) ((es.take r).drop l) ar c hm (by rw [hlen]; omega) fun i e hi => by
      have hil := (List.getElem?_eq_some_iff.1 hi).1
      rw [hlen] at hil
      rw [List.getElem?_drop, List.getElem?_take] at hi
      split at hi
      · have := he (l + i) e hi
        rw [Nat.add_mul, ← Nat.add_assoc] at this
        exact this
      · cases hi
    rw [hlen] at this
    exact this
variable {P : Pv} {ops : Array Oper} {rest : List Oper} {fr fr' : Fr} {st : St} {Q : Fr → St → Prop} {ty : TypeId} {pp : String} {a : Array Edge} {g : Option (Nat × Bool)} {dst : Nat}
theorem EvO.prt {t e : TypeId} {xo : Operand} {lo hi : Option Operand} {x : D} {s : Nat} {es : List (List D)} {l r : Nat} (hg : wantD ops fr ⟨some dst, .slice t xo lo hi none, ty, pp, a, g⟩ = some true) (hx : fr.ev xo = x) (hR : Rows st s x es) (ht : P.und t = some (.slice e)) (hs : szOf P e = some s)
    (hb : boundsD es.length (lo.map fr.ev) (hi.map fr.ev) = some (l, r)) (hlr : l ≤ r ∧ r ≤ es.length) (hp : fr.put dst (prtD x l r) = fr')
    (h : EvO P ops rest fr' st Q) : EvO P ops (⟨some dst, .slice t xo lo hi none, ty, pp, a, g⟩ :: rest) fr st Q := by
  refine EvO.go hg rfl (d := prtD x l r) (st1 := st) ?_ hp h
  simp only [opD, hx, hR.prt ht hs hb hlr, Option.map_some]
variable {N : Nat} {S : St} {H : List Ent}
theorem Has.appendB {j : Nat} {x y : D} {s : Nat} {es ys : List (List D)} (hH : Has N S st H) (hj : H[j]? = some (.lst x s es)) (hrow : rowD st y = some (ys.length, ys.flatten)) (hyl : ∀ e ∈ ys, e.length = s) {t1 t2 e : TypeId} {td : TypeDesc} {inf : TypeInfo} {z : List D}
    (h1 : P.und t1 = some (.slice e)) (h2 : P.und t2 = some td) (h3 : isIntT td = false) (h4 : P.info e = some inf) (h5 : zeroC P e = some z) (h6 : inf.size = s) (h7 : z.length = s) (h8 : 0 < inf.bytes ∧ inf.bytes ≤ 1024)
    (hb1 : inf.bytes = 1) (hb0 : es.length + ys.length ≤ 1099511627776) (hw : S.flr ≤ N ∨ refs ys.flatten = 0) :
    ∃ x' st', builtinD P .append [t1, t2] [x, y] st = some (x', st') ∧ Has N S st' (H.set j (.lst x' s (es ++ ys))) ∧ (ys = [] → x' = x) := by
  have hb : (es.length + ys.length) * inf.bytes ≤ 1099511627776 := by rw [hb1, Nat.mul_one]; exact hb0
  have hfl := flat_len hyl
  have hown := hH.own hj
  have hkk := (hH.ok j _ hj).2
  have hS := hH.len
  have hNS := hH.hN
  subst h6
  simp only [builtinD, appendD, h1, h2, h3, Bool.false_eq_true, if_false, h4, h5, hrow, Option.bind_some]
  rw [if_neg (by rintro (h | h | h); exact h hfl; exact absurd h (by omega); exact h h7)]
  have hset : ∀ e, H[j]? = some e → H.set j e = H := fun e he => by
    apply List.ext_getElem?
    intro i
    by_cases hij : i = j
    · subst hij
      have : i < H.length := by
        rcases Nat.lt_or_ge i H.length with h' | h'
        · exact h'
        · rw [List.getElem?_eq_none h'] at he; cases he
      rw [List.getElem?_set_self this, he]
    · rw [List.getElem?_set_ne (fun e => hij e.symm)]
  cases hown with
  | nul =>
    simp only [List.nil_append]
    by_cases h0 : ys.length = 0
    · rw [if_pos h0]
      have : ys = [] := by cases ys with | nil => rfl | cons _ _ => simp at h0
      subst this
      exact ⟨.nul, st, rfl, by rw [hset _ hj]; exact hH, fun _ => rfl⟩
    · rw [if_neg h0, if_pos (by simpa using hb)]
      refine ⟨_, _, rfl, ?_, fun e => absurd (by rw [e]; rfl) h0⟩
      refine hH.upd hj (fun k hk _ => by simp only [St.push]; rw [List.getElem?_append_left hk]) (by simp [St.push]) rfl rfl ?_ (fun k hk => ?_) fun k hk => ?_
      · exact OwnP.win _ 0 0 ys ys.flatten (push_at st _) (by rw [hfl]; omega) (by rw [List.drop_zero, ← hfl, List.take_length]) hyl
      · simp only [Ent.lst, D.ref] at hk; right; omega
      · simp only [Ent.lst, D.ref] at hk; simp only [St.push, List.length_append, List.length_cons, List.length_nil]; omega
  | win k ver off es c hm hl hc he =>
    have hk := hkk k (by simp only [Ent.lst, D.ref])
    simp only [St.mem_of hm]
    rw [if_neg (by rintro (h | h); exact h rfl; omega)]
    by_cases h0 : ys.length = 0
    · rw [if_pos h0]
      have : ys = [] := by cases ys with | nil => rfl | cons _ _ => simp at h0
      subst this
      simp only [List.append_nil]
      exact ⟨_, st, rfl, by rw [hset _ hj]; exact hH, fun _ => rfl⟩
    · rw [if_neg h0, if_pos ⟨hb, canW_has hH hk.1 hw⟩]
      refine ⟨_, _, rfl, ?_, fun e => absurd (by rw [e]; rfl) h0⟩
      have hll : es.length + ys.length = (es ++ ys).length := by simp
      have hcc : (c.take (off + es.length * inf.size)).drop off = es.flatten := by rw [List.drop_take, ← hc]; congr 1; omega
      rw [hll, hcc]
      refine hH.upd hj (fun n hn hne => by simp only; rw [List.getElem?_set_ne (fun e => hne (by simp only [Ent.lst, D.ref]; omega))]) (by simp) rfl rfl ?_ (fun n hn => ?_) fun n hn => ?_
      · have hel : ∀ e ∈ es ++ ys, e.length = inf.size := fun e h => by
          rcases List.mem_append.1 h with h | h
          · exact he e h
          · exact hyl e h
        have hfl2 := flat_len hel
        refine OwnP.win k (ver + 1) 0 (es ++ ys) (es ++ ys).flatten ?_ (by rw [hfl2]; omega) (by rw [List.drop_zero, ← hfl2, List.take_length]) hel
        simp only; rw [List.getElem?_set_self hk.2, List.flatten_append]
      · simp only [Ent.lst, D.ref] at hn ⊢; left; omega
      · simp only [Ent.lst, D.ref] at hn; simp only [List.length_set]; omega
theorem EvO.happendB {j : Nat} {x y : D} {s : Nat} {es ys : List (List D)} {t1 t2 e : TypeId} {td : TypeDesc} {inf : TypeInfo} {z : List D} {xo yo : Operand} {fr' : D → Fr} (hH : Has N S st H) (hg : wantD ops fr ⟨some dst, .call ⟨.builtin .append, #[xo, yo], #[t1, t2]⟩, ty, pp, a, g⟩ = some true)
    (hx : fr.ev xo = x) (hy : fr.ev yo = y) (hj : H[j]? = some (.lst x s es)) (hys : Rows st s y ys)
    (h1 : P.und t1 = some (.slice e)) (h2 : P.und t2 = some td) (h3 : isIntT td = false) (h4 : P.info e = some inf) (h5 : zeroC P e = some z) (h6 : inf.size = s) (h7 : z.length = s) (h8 : 0 < inf.bytes ∧ inf.bytes ≤ 1024)
    (hp : ∀ x', fr.put dst x' = fr' x') (hb1 : inf.bytes = 1) (hb : es.length + ys.length ≤ 1099511627776) (hw : S.flr ≤ N ∨ refs ys.flatten = 0)
    (h : ∀ x' st', Has N S st' (H.set j (.lst x' s (es ++ ys))) → EvO P ops rest (fr' x') st' Q) :
    EvO P ops (⟨some dst, .call ⟨.builtin .append, #[xo, yo], #[t1, t2]⟩, ty, pp, a, g⟩ :: rest) fr st Q := by
  obtain ⟨x', st', q1, q2, q3⟩ := hH.appendB hj hys.row (fun e he => by obtain ⟨i, hi⟩ := List.getElem?_of_mem he; exact hys.elen i e hi) h1 h2 h3 h4 h5 h6 h7 h8 hb1 hb hw
  refine EvO.go hg rfl (d := x') (st1 := st') ?_ (hp _) (h x' st' q2)
  simp only [opD, List.map_cons, List.map_nil, hx, hy]
  exact q1
theorem EvO.hmake0 {t e : TypeId} {lo co : Operand} {k1 k2 : IntKind} {m : Int} {inf : TypeInfo} {z : List D} {s : Nat} {fr' : Nat → Fr} (hH : Has N S st H) (hg : wantD ops fr ⟨some dst, .makeSlice t lo co, ty, pp, a, g⟩ = some true)
    (hl : fr.ev lo = .int k1 0) (hc : fr.ev co = .int k2 m) (ht : P.und t = some (.slice e)) (hi : P.info e = some inf) (hz : zeroC P e = some z) (hsz : inf.size = s) (hzl : z.length = s) (hmb : inf.bytes ≤ 1024) (hm0 : 0 ≤ m ∧ m ≤ 137438953472) (hp : ∀ k, fr.put dst (.win k 0 0 0 s) = fr' k)
    (h : ∀ k st', S.bs.length ≤ k → Has N S st' (.lst (.win k 0 0 0 s) s [] :: H) → EvO P ops rest (fr' k) st' Q) : EvO P ops (⟨some dst, .makeSlice t lo co, ty, pp, a, g⟩ :: rest) fr st Q := by
  subst hsz
  have hb : m * (inf.bytes : Int) ≤ 140737488355328 := Int.le_trans (Int.mul_le_mul hm0.2 (show (inf.bytes : Int) ≤ 1024 by omega) (by omega) (by omega)) (by decide)
  refine EvO.go hg rfl (d := .win st.bs.length 0 0 0 inf.size) (st1 := st.push (.mem 0 true [])) ?_ (hp _) (h _ _ hH.len (hH.pushLst rfl rfl (fun e he => by cases he)))
  simp only [opD, hl, hc, makeSliceD, ht, hi, hz, Option.bind_some]
  rw [if_pos ⟨hzl, by omega, by omega, by omega, hb⟩]
  rfl
theorem Has.leaveNw {s0 S st : St} {H : List Ent} (hS : S.bs = s0.bs) (hro : s0.ro ≤ s0.bs.length) (h : Has s0.bs.length S st H) : Has s0.bs.length s0 ⟨st.bs, s0.flr, s0.ro⟩ H := by
  refine ⟨⟨fun k hk => ?_, ?_, rfl, rfl⟩, Nat.le_refl _, hro, fun i e hi => ⟨@Ent.loc e st ⟨st.bs, s0.flr, s0.ro⟩ (fun _ _ => rfl) (h.ok i e hi).1, (h.ok i e hi).2⟩, h.dis⟩
  · rw [← hS]; exact h.ex.low k hk
  · rw [← hS]; exact h.ex.len
theorem Has.ovr {N : Nat} {S st st' : St} {H H2 : List Ent} (h : Has N S st H) (h2 : Has st.bs.length st st' H2) : Has N S st' (H2 ++ H) := by
  have hN := h.hN
  have hl := h.ex.len
  have hl2 := h2.ex.len
  refine ⟨⟨fun k hk => ?_, by omega, h2.ex.flr.trans h.ex.flr, h2.ex.ro.trans h.ex.ro⟩, hN, h.hro, fun i e hi => ?_, fun i j a b hij ha hb k hka hkb => ?_⟩
  · rw [h2.ex.low k (by omega)]; exact h.ex.low k hk
  · by_cases hlt : i < H2.length
    · rw [List.getElem?_append_left hlt] at hi
      obtain ⟨h3, h4⟩ := h2.ok i e hi
      exact ⟨h3, fun k hk => ⟨by have := (h4 k hk).1; omega, (h4 k hk).2⟩⟩
    · rw [List.getElem?_append_right (by omega)] at hi
      obtain ⟨h3, h4⟩ := h.ok _ e hi
      exact ⟨e.loc (fun k hk => h2.ex.low k (h4 k hk).2) h3, fun k hk => ⟨(h4 k hk).1, by have := (h4 k hk).2; omega⟩⟩
  · by_cases h1 : i < H2.length <;> by_cases h3 : j < H2.length
    · rw [List.getElem?_append_left h1] at ha
      rw [List.getElem?_append_left h3] at hb
      exact h2.dis i j a b hij ha hb k hka hkb
    · rw [List.getElem?_append_left h1] at ha
      rw [List.getElem?_append_right (by omega)] at hb
      have := ((h2.ok _ a ha).2 k hka).1
      have := ((h.ok _ b hb).2 k hkb).2
      omega
    · rw [List.getElem?_append_right (by omega)] at ha
      rw [List.getElem?_append_left h3] at hb
      have := ((h2.ok _ b hb).2 k hkb).1
      have := ((h.ok _ a ha).2 k hka).2
      omega
    · rw [List.getElem?_append_right (by omega)] at ha hb
      exact h.dis _ _ a b (by omega) ha hb k hka hkb
theorem EvO.happendS {j : Nat} {x : D} {b : List UInt8} {es : List (List D)} {t1 t2 e : TypeId} {td : TypeDesc} {inf : TypeInfo} {z : List D} {xo yo : Operand} {fr' : D → Fr} (hH : Has N S st H) (hg : wantD ops fr ⟨some dst, .call ⟨.builtin .append, #[xo, yo], #[t1, t2]⟩, ty, pp, a, g⟩ = some true)
    (hx : fr.ev xo = x) (hy : fr.ev yo = .str b) (hj : H[j]? = some (.lst x 1 es))
    (h1 : P.und t1 = some (.slice e)) (h2 : P.und t2 = some td) (h3 : isIntT td = false) (h4 : P.info e = some inf) (h5 : zeroC P e = some z) (h6 : inf.size = 1) (h7 : z.length = 1) (h8 : 0 < inf.bytes ∧ inf.bytes ≤ 1024)
    (hp : ∀ x', fr.put dst x' = fr' x') (hb1 : inf.bytes = 1) (hb : es.length + b.length ≤ 1099511627776)
    (h : ∀ x' st', Has N S st' (H.set j (.lst x' 1 (es ++ byteCells b))) → EvO P ops rest (fr' x') st' Q) :
    EvO P ops (⟨some dst, .call ⟨.builtin .append, #[xo, yo], #[t1, t2]⟩, ty, pp, a, g⟩ :: rest) fr st Q := by
  have hfl : ∀ b : List UInt8, (byteCells b).flatten = b.map fun y => .int .u8 (y.toNat : Nat) := by
    intro b
    induction b with
    | nil => rfl
    | cons y b ih => simp only [byteCells, List.map_cons, List.flatten_cons] at ih ⊢; rw [ih]; rfl
  have hln : (byteCells b).length = b.length := by simp [byteCells]
  have hpl : ∀ b : List UInt8, refs (b.map fun y => D.int .u8 (y.toNat : Nat)) = 0 := by
    intro b
    induction b with
    | nil => rfl
    | cons y b ih => simp only [List.map_cons, refs, D.ref, ih]; rfl
  obtain ⟨x', st', q1, q2, q3⟩ := hH.appendB (y := .str b) (ys := byteCells b) hj (by rw [hln, hfl]; rfl) (fun e he => by obtain ⟨y, _, rfl⟩ := List.mem_map.1 he; rfl) h1 h2 h3 h4 h5 h6 h7 h8 hb1 (by rw [hln]; exact hb) (.inr (by rw [hfl]; exact hpl b))
  refine EvO.go hg rfl (d := x') (st1 := st') ?_ (hp _) (h x' st' q2)
  simp only [opD, List.map_cons, List.map_nil, hx, hy]
  exact q1
theorem Has.fine (hF : S.flr ≤ N) (hH : Has N S st H) : st.flr ≤ st.bs.length ∧ st.ro ≤ st.bs.length := by
  have h1 := hH.ex.flr
  have h2 := hH.ex.ro
  have h3 := hH.hro
  have h4 := hH.hN
  have h5 := hH.ex.len
  constructor <;> omega
end Go.V
namespace Go.V
variable {N : Nat} {S st : St} {H : List Ent}
theorem Has.enterRw {s0 : St} (h : Has N S s0 H) : Has N (enterSt .rw s0) (enterSt .rw s0) H :=
  ⟨Ex.refl _ _, Nat.le_trans h.hN h.ex.len, by show s0.ro ≤ N; rw [h.ex.ro]; exact h.hro, fun i e hi => ⟨e.loc (st := s0) (st' := enterSt .rw s0) (fun k _ => rfl) (h.ok i e hi).1, (h.ok i e hi).2⟩, h.dis⟩
theorem leaveD_rw {kn : Bool} {s0 st : St} {d d' : D} (hd : freezeD st s0.bs.length kn 16 d = some d') : leaveD .rw kn s0 st d = some (d', ⟨st.bs.take s0.bs.length, s0.flr, s0.ro⟩) := by
  simp only [leaveD, hd]
theorem Has.leaveRw {s0 S2 st2 : St} {H2 : List Ent} (h : Has N S s0 H) (hS : S2.bs = s0.bs) (h2 : Has N S2 st2 H2) (hk : ∀ (i : Nat) e, H2[i]? = some e → ∃ e', H[i]? = some e' ∧ ∀ k, e.K k → e'.K k) : Has N S ⟨st2.bs.take s0.bs.length, s0.flr, s0.ro⟩ H2 := by
  have hL : s0.bs.length ≤ st2.bs.length := by have := h2.ex.len; rw [hS] at this; exact this
  have hSL := h.ex.len
  have hNL := h.hN
  refine ⟨⟨fun k hk' => ?_, ?_, h.ex.flr, h.ex.ro⟩, h.hN, h.hro, fun i e hi => ?_, h2.dis⟩
  · show (st2.bs.take s0.bs.length)[k]? = _
    rw [List.getElem?_take, if_pos (by omega), h2.ex.low k hk', hS]; exact h.ex.low k hk'
  · show _ ≤ (st2.bs.take s0.bs.length).length
    rw [List.length_take]; omega
  · obtain ⟨e', he', hkk⟩ := hk i e hi
    have h3 := (h.ok i e' he').2
    refine ⟨e.loc (fun k hk' => ?_) (h2.ok i e hi).1, fun k hk' => ⟨(h3 k (hkk k hk')).1, ?_⟩⟩
    · show (st2.bs.take s0.bs.length)[k]? = _
      rw [List.getElem?_take, if_pos (h3 k (hkk k hk')).2]
    · show k < (st2.bs.take s0.bs.length).length
      rw [List.length_take]
      have := (h3 k (hkk k hk')).2
      omega
theorem Has.leaveRw1 {s0 S2 st2 : St} {k : Nat} {b b' : Box} (h : Has N S s0 (.box k b :: H)) (hS : S2.bs = s0.bs) (h2 : Has N S2 st2 (.box k b' :: H)) : Has N S ⟨st2.bs.take s0.bs.length, s0.flr, s0.ro⟩ (.box k b' :: H) := by
  refine h.leaveRw hS h2 fun i e hi => ?_
  cases i with
  | zero => simp only [List.getElem?_cons_zero, Option.some.injEq] at hi; subst hi; exact ⟨_, rfl, fun k hk => hk⟩
  | succ i => exact ⟨e, hi, fun k hk => hk⟩
theorem Has.append5 {P : Pv} {j : Nat} {x y x' : D} {s : Nat} {es ys : List (List D)} {st' : St} (hH : Has N S st H) (hj : H[j]? = some (.lst x s es)) (hy : Rows st s y ys) {t1 t2 e : TypeId} {td : TypeDesc} {inf : TypeInfo} {z : List D}
    (h1 : P.und t1 = some (.slice e)) (h2 : P.und t2 = some td) (h3 : isIntT td = false) (h4 : P.info e = some inf) (h5 : zeroC P e = some z)
    (q1 : builtinD P .append [t1, t2] [x, y] st = some (x', st')) : ∀ k, x'.ref = k + 1 → x.ref = k + 1 ∨ S.bs.length ≤ k := by
  have hl := hH.ex.len
  have hrow := hy.row
  have hyl : ∀ e ∈ ys, e.length = s := fun e he => by
    obtain ⟨i, hi⟩ := List.getElem?_of_mem he
    exact hy.elen i e hi
  have hown := hH.own hj
  simp only [builtinD, appendD, h1, h2, h3, Bool.false_eq_true, if_false, h4, h5, hrow, Option.bind_some] at q1
  split at q1
  · cases q1
  · cases hown with
    | nul =>
      simp only at q1
      split at q1
      · cases q1; exact fun k hk => .inl hk
      · split at q1
        · cases q1
          exact fun k hk => .inr (by simp only [D.ref] at hk; omega)
        · cases q1
    | win k ver off es c hm hl hc he =>
      simp only [St.mem_of hm] at q1
      split at q1
      · cases q1
      · split at q1
        · cases q1; exact fun k hk => .inl hk
        · split at q1
          · cases q1
            exact fun n hn => .inl (by simp only [D.ref] at hn ⊢; exact hn)
          · cases q1
theorem EvO.happend5 {P : Pv} {ops : Array Oper} {rest : List Oper} {fr : Fr} {Q : Fr → St → Prop} {ty : TypeId} {pp : String} {a : Array Edge} {g : Option (Nat × Bool)} {dst : Nat} {j : Nat} {x y : D} {s : Nat} {es ys : List (List D)} {t1 t2 e : TypeId} {td : TypeDesc} {inf : TypeInfo} {z : List D} {xo yo : Operand} {fr' : D → Fr} (hH : Has N S st H) (hg : wantD ops fr ⟨some dst, .call ⟨.builtin .append, #[xo, yo], #[t1, t2]⟩, ty, pp, a, g⟩ = some true)
    (hx : fr.ev xo = x) (hy : fr.ev yo = y) (hj : H[j]? = some (.lst x s es)) (hys : Rows st s y ys)
    (h1 : P.und t1 = some (.slice e)) (h2 : P.und t2 = some td) (h3 : isIntT td = false) (h4 : P.info e = some inf) (h5 : zeroC P e = some z) (h6 : inf.size = s) (h7 : z.length = s) (h8 : 0 < inf.bytes ∧ inf.bytes ≤ 1024)
    (hp : ∀ x', fr.put dst x' = fr' x') (hb : es.length + ys.length ≤ 1073741824) (hw : S.flr ≤ N ∨ refs ys.flatten = 0) (h0 : ∀ k, x.ref = k + 1 → S.bs.length ≤ k)
    (h : ∀ x' st', (∀ k, x'.ref = k + 1 → S.bs.length ≤ k) → Has N S st' (H.set j (.lst x' s (es ++ ys))) → EvO P ops rest (fr' x') st' Q) :
    EvO P ops (⟨some dst, .call ⟨.builtin .append, #[xo, yo], #[t1, t2]⟩, ty, pp, a, g⟩ :: rest) fr st Q := by
  obtain ⟨x', st', q1, q2, q3⟩ := hH.append hj hys h1 h2 h3 h4 h5 h6 h7 h8 hb hw
  have h5' := hH.append5 hj hys h1 h2 h3 h4 h5 q1
  refine EvO.go hg rfl (d := x') (st1 := st') ?_ (hp _) (h x' st' (fun k hk => ?_) q2)
  · simp only [opD, List.map_cons, List.map_nil, hx, hy]
    exact q1
  · rcases h5' k hk with h | h
    · exact h0 k h
    · exact h
def frzC : D → D
  | .nul => .sl []
  | d => d
def tellC (d : D) : Bool := match d with | .nul => true | d => plainC d
theorem tell_pure {st : St} {N n : Nat} {d : D} (h : tellC d = true) : pureD st N (n + 1) d = some (frzC d) := by
  cases d <;> simp [tellC, plainC] at h <;> rfl
theorem mapO_tell {st : St} {N n : Nat} : ∀ {l : List D}, (∀ d ∈ l, tellC d = true) → mapO (pureD st N (n + 1)) l = some (l.map frzC)
  | [], _ => rfl
  | d :: l, h => by simp only [mapO, tell_pure (h d (List.mem_cons_self ..)), mapO_tell (fun d hd => h d (List.mem_cons_of_mem _ hd)), List.map_cons]
theorem Has.freezeT {L j : Nat} {x : D} {s : Nat} {es : List (List D)} (hH : Has N S st H) (hj : H[j]? = some (.lst x s es)) (hx : ∀ k, x.ref = k + 1 → L ≤ k) (hp : ∀ e ∈ es, ∀ d ∈ e, tellC d = true) {n : Nat} (hn : 3 ≤ n) : freezeD st L false n x = some (.sl ((es.map (·.map frzC)).map (elD s))) := by
  obtain ⟨n, rfl⟩ : ∃ m, n = m + 3 := ⟨n - 3, by omega⟩
  have hown := hH.own hj
  cases hown with
  | nul => rfl
  | win k ver off es c hm hl hc he =>
    have hk := hx k (by simp only [D.ref])
    show (if k < L then some (D.win k ver off es.length s) else pureD st L (n + 2) (.win k ver off es.length s)) = _
    rw [if_neg (show ¬ k < L by omega), pureD]
    simp only [if_neg (show ¬ k < L by omega), St.mem_of hm, Option.bind_some]
    rw [if_pos hl, hc, mapO_tell (fun d hd => by
      obtain ⟨e, he', hd'⟩ := List.mem_flatten.1 hd
      exact hp e he' d hd')]
    have h1 : (es.map (·.map frzC)).flatten = es.flatten.map frzC := by rw [List.map_flatten]
    have h2 : (es.map (·.map frzC)).length = es.length := List.length_map _
    have h3 : ∀ e ∈ es.map (·.map frzC), e.length = s := by
      intro e he'
      obtain ⟨e0, h0, rfl⟩ := List.mem_map.1 he'
      rw [List.length_map]; exact he e0 h0
    simp only [Option.map_some]
    rw [← h1, ← h2, chunk_flat h3]
end Go.V
namespace Go.Proofs.YtecjacicdpejaaaGreat
open Go.V Go
def ixF_Nd (fr : Go.V.Fr) (k : Nat) : Go.V.D := Go.V.nth .junk fr.loc k
def OutB (s0 st : St) (d : D) (b : List UInt8) : Prop := Has s0.bs.length s0 st [.lst d 1 (byteCells b)]
theorem OutB.over {N : Nat} {S s0 st : St} {H : List Ent} {d : D} {b : List UInt8} (h : OutB s0 st d b) (hH : Has N S s0 H) : Has N S st (.lst d 1 (byteCells b) :: H) := hH.ovr h
theorem bc_app (a b : List UInt8) : byteCells (a ++ b) = byteCells a ++ byteCells b := by unfold byteCells; rw [List.map_append]
theorem cvU_op (k : Nat) (hk : k < 2 ^ 63) (st : St) : convD pv 3 123 (.int .i64 (k : Nat)) st = some (.int .u64 (k : Nat), st) := by
 show some (D.int .u64 (wrapD .u64 (k : Nat)), st) = _;rw [wrap_nat (by simp only [maxN]; omega)]
theorem mul8_op (k : Nat) (hk : k ≤ 8) (st : St) : (binD pv .mul 123 (.int .u64 8) (.int .u64 (k : Nat))).map (fun d => (d, st)) = some (.int .u64 ((8 * k : Nat) : Int), st) := by
 show Option.map _ (some (D.int .u64 (wrapD .u64 (8 * (k : Nat))))) = _;rw [show (8 : Int) * (k : Nat) = ((8 * k : Nat) : Int) by omega, wrap_nat (by simp only [maxN]; omega)]; rfl
theorem fdiv8 (m k : Nat) : Int.fdiv (m : Nat) (2 ^ (8 * k)) = ((m / 256 ^ k : Nat) : Int) := by
 have e : ((2 : Int) ^ (8 * k)) = ((256 ^ k : Nat) : Int) := by
  rw [Int.pow_mul, Int.natCast_pow]; rfl
 rw [e, Int.fdiv_eq_ediv_of_nonneg _ (Int.natCast_nonneg _)]; rfl
theorem shr8_op (m k : Nat) (hk : k ≤ 8) (st : St) : (binD pv .shr 151 (.int .u64 (m : Nat)) (.int .u64 ((8 * k : Nat) : Int))).map (fun d => (d, st)) = some (.int .u64 ((m / 256 ^ k : Nat) : Int), st) := by
 show Option.map _ (if ((8 * k : Nat) : Int) < 0 then none else some (D.int .u64 (Int.fdiv (m : Nat) (2 ^ (min ((8 * k : Nat) : Int).toNat 64))))) = _;rw [if_neg (by omega), Int.toNat_natCast, Nat.min_eq_left (by omega), fdiv8]; rfl
theorem cell8 {q : Nat} (hq : q < 256) : byteCells [UInt8.ofNat q] = [[D.int .u8 (q : Nat)]] := by
 show [[D.int .u8 ((UInt8.ofNat q).toNat : Nat)]] = _;rw [UInt8.toNat_ofNat', Nat.mod_eq_of_lt hq]
theorem cell8m {q : Nat} : byteCells [UInt8.ofNat q] = [[D.int .u8 ((q % 256 : Nat) : Int)]] := by
 show [[D.int .u8 ((UInt8.ofNat q).toNat : Nat)]] = _;rw [UInt8.toNat_ofNat']
theorem wrap8n (q : Nat) : wrapD .u8 (q : Nat) = ((q % 256 : Nat) : Int) := by
 rw [wrapD_eq]; rfl
theorem cv8_op (q : Nat) (st : St) : convD pv 151 5 (.int .u64 (q : Nat)) st = some (.int .u8 ((q % 256 : Nat) : Int), st) := by
 show some (D.int .u8 (wrapD .u8 (q : Nat)), st) = _;rw [wrap8n]
theorem wMore_ev {s0 : St} {x : D} {b : List UInt8} (hF : s0.flr ≤ s0.bs.length) (hro : s0.ro ≤ s0.bs.length) (hx : V.Rows s0 1 x (byteCells b)) (hl : b.length ≤ 68719476736) (room : Nat) (hr : room ≤ 68719476736) :
  ∃ d st', Ev pv 140 [x, .int .i64 (room : Nat)] s0 d st' ∧ OutB s0 st' d b := by
 have hbc := byteCells_len b;refine Ev.mkE rfl fi140 rfl rfl rfl ?_;refine zE ?_;have hSb : (enterSt .nw s0).bs = s0.bs := rfl;have hF : (enterSt .nw s0).flr ≤ s0.bs.length := hF;have hH : Has s0.bs.length (enterSt .nw s0) (enterSt .nw s0) [] := Has.start (Nat.le_refl _) (Nat.le_refl _);generalize enterSt .nw s0 = S at *;have hx := Arg.of hx hSb;refine zQ 7 ?_;refine qn ?_;refine qm ?_;refine EvO.addZ (z := ((b.length + room : Nat) : Int)) rfl (ev rfl) (ev rfl) (by (try simp only [List.length_reverse, List.length_cons, List.length_nil, List.length_append, List.length_map, List.length_set]); rw [wrap_i64 (by omega) (by omega)] <;> omega) (put_T rfl _) ?_;refine EvO.hmake0 (s := 1) hH rfl (ev rfl) (ev rfl) rfl rfl rfl rfl rfl (Nat.le_of_ble_eq_true rfl) (by omega) (fun _ => (put_T rfl _)) (fun k10 st hk10 hH => ?_);refine zQ 6 ?_;refine EvO.happendB (s := 1) hH rfl (ev rfl) (ev rfl) (by exact at0) (by exact Arg.rows (by assumption) hH) rfl rfl rfl rfl rfl rfl rfl ⟨(Nat.le_of_ble_eq_true rfl), (Nat.le_of_ble_eq_true rfl)⟩ (fun _ => (put_T rfl _)) rfl (by simp only [List.length_nil] <;> omega) (by exact .inl hF) (fun x13 st hH => ?_);dsimp only [u2, u1, u3, u4, setMany, u5, u6, D.cells, Nat.reduceAdd] at hH;refine zQ 2 ?_;refine EvC.ret ⟨rx, _, _, _, rfl, rfl, ?_⟩;exact hH.leaveNw hSb hro
theorem wNum_ev {s0 : St} {x : D} {b : List UInt8} (hF : s0.flr ≤ s0.bs.length) (hro : s0.ro ≤ s0.bs.length) (hx : V.Rows s0 1 x (byteCells b)) (hl : b.length ≤ 60000000000) (n : Int) (hn : n < 9223372036854775808) :
  ∃ d st', Ev pv 73 [x, .int .i64 n] s0 d st' ∧ OutB s0 st' d (b ++ numB n) := by
 obtain ⟨m, hm⟩ : ∃ m, n.toNat = m := ⟨_, rfl⟩
 have hm2 : m < 256 ^ 8 := by omega
 obtain ⟨hk1, hk2⟩ := kB_spec hm2;have hk8 := kB_le m;have hnb : numB n = UInt8.ofNat (kB m) :: beB (kB m) m := by unfold numB; rw [hm]
 have hbc := byteCells_len b;rw [hnb];refine Ev.mkE rfl fi73 rfl rfl rfl ?_;refine zE ?_;have hSb : (enterSt .nw s0).bs = s0.bs := rfl;have hF : (enterSt .nw s0).flr ≤ s0.bs.length := hF;have hH : Has s0.bs.length (enterSt .nw s0) (enterSt .nw s0) [] := Has.start (Nat.le_refl _) (Nat.le_refl _);generalize enterSt .nw s0 = S at *;have hx := Arg.of hx hSb;refine zQ 7 ?_;obtain ⟨d5, st, hev, ho⟩ := wMore_ev (s0 := S) (x := x) (b := b) (by rw [hSb]; exact hF) (by rw [hSb]; exact hH.hro) (hx.rows hH) (by omega) 9 (by omega);have hH := hH.ovr ho
 (try dsimp only [List.append_nil] at hH)
 refine qv hev ?_;refine zQ 5 ?_;refine EvO.maxS (t1 := 0) (t2 := 0) rfl (ev rfl) (ev rfl) (put_T rfl _) ?_;refine EvO.go (d := .int .u64 (m : Nat)) (st1 := _) rfl rfl (by show some (D.int .u64 (wrapD .u64 (max n 0)), _) = _; rw [show max n 0 = (m : Int) by omega, wrap_nat (by simp only [maxN]; omega)]) (put_T rfl _) ?_;refine zQ 8 ?_;refine EvC.loop (fun mm fr st => ∃ (k : Nat), fr.clean = ⟨9, [ixF_Nd fr 0, ixF_Nd fr 1, ixF_Nd fr 2, ixF_Nd fr 3, ixF_Nd fr 4, d5, .int .u64 (m : Nat), .int .i64 (k : Nat), ixF_Nd fr 8], []⟩ ∧ Has s0.bs.length S st [.lst d5 1 (byteCells b)] ∧ (k + mm = kB m)) (kB m) ?_ ?_
 ·exact ⟨0, rfl, hH, by omega⟩
 rintro mm fr st ⟨k, hfr, hH, hk⟩;rw [hfr];clear hfr;generalize ixF_Nd fr = ee;clear fr;refine zQ 2 ?_;refine EvC.cutT 23 (.bool (decide (((k : Nat) : Int) < 8) && decide (((m / 256 ^ k : Nat) : Int) > 0))) [] ?_ (fun ff tmp htmp => ?_)
 ·refine zQ 3 ?_;refine EvO.two 16 rfl (fun hg2 => ?_) (fun hg2 => ?_)
  ·refine zQ 2 ?_;refine EvO.go (d := .int .u64 (k : Nat)) (st1 := _) (wantD_is rfl rfl rfl hg2) rfl (by exact cvU_op k (by omega) _) (put_T rfl _) ?_;refine EvO.go (d := .int .u64 ((8 * k : Nat) : Int)) (st1 := _) (wantD_is rfl rfl rfl hg2) rfl (by exact mul8_op k (by omega) _) (put_T rfl _) ?_;refine EvO.go (d := .int .u64 ((m / 256 ^ k : Nat) : Int)) (st1 := _) (wantD_is rfl rfl rfl hg2) rfl (by exact shr8_op m k (by omega) _) (put_T rfl _) ?_;refine zQ 2 ?_;refine EvO.nil (leafT ?_ ?_)
   ·dsimp only [setW, List.foldl, nth, u2, u1]
    all_goals (first | rfl | simp)
   ·refine zF ?_
    all_goals (simp [hg2]; done)
  ·refine zQ 7 ?_;refine EvO.nil (leafT ?_ ?_)
   ·dsimp only [setW, List.foldl, nth, u2, u1]
    all_goals (first | rfl | simp)
   ·refine zF ?_
    all_goals (simp [hg2]; done)
 refine zG ?_
 by_cases hlt : k < kB m
 ·have hp := hk2 k hlt
  have hct : (decide (((k : Nat) : Int) < 8) && decide (((m / 256 ^ k : Nat) : Int) > 0)) = true := by
   rw [decide_eq_true (by omega), decide_eq_true (by omega)]; rfl
  refine EvC.cond (v := true) (by dsimp only [Fr.ev, Fr.get, nth, V.look]; exact htmp.trans (congrArg D.bool hct)) (fun _ => ?_) (fun h => by cases h);refine zQ 7 ?_;exact ⟨mm - 1, by omega, ⟨k + 1, rfl, hH, by omega⟩⟩
 ·have hke : k = kB m := by omega
  subst hke
  have hcf : (decide (((kB m : Nat) : Int) < 8) && decide (((m / 256 ^ kB m : Nat) : Int) > 0)) = false := by
   rw [hk1]; simp
  refine EvC.cond (v := false) (by dsimp only [Fr.ev, Fr.get, nth, V.look]; exact htmp.trans (congrArg D.bool hcf)) (fun h => by cases h) (fun _ => ?_);refine zQ 5 ?_;refine EvO.go (d := .int .u8 (kB m : Nat)) (st1 := _) rfl rfl (by show some (D.int .u8 (wrapD .u8 (kB m : Nat)), _) = _; rw [wrap_nat (by simp only [maxN]; omega)]) (put_T rfl _) ?_;refine qh (s := 1) (vs := [_]) hH fun k29 st hk29 hH => ?_;refine EvO.happendB (s := 1) hH rfl (ev rfl) (ev rfl) (by exact at1) (by exact hH.rows (by exact at0)) rfl rfl rfl rfl rfl rfl rfl ⟨(Nat.le_of_ble_eq_true rfl), (Nat.le_of_ble_eq_true rfl)⟩ (fun _ => (put_T rfl _)) rfl (by simp only [List.length_cons, List.length_nil, List.length_map] <;> omega) (by exact .inl hF) (fun x30 st hH => ?_);dsimp only [u2, u1, u3, u4, setMany, u5, u6, D.cells, Nat.reduceAdd] at hH;refine zQ 2 ?_
  have hH : Has s0.bs.length S st [.lst x30 1 (byteCells (b ++ [UInt8.ofNat (kB m)]))] := by
   rw [bc_app, cell8 (by omega)]; exact hH.drop 1
  refine zQ 4 ?_;refine EvO.subS64 rfl (ev rfl) (ev rfl) (by omega) (by omega) (put_T rfl _) ?_;refine zQ 2 ?_;have hbl : ∀ j, (beB j m).length = j := fun j => beB_len j m
  obtain ⟨T, hT⟩ : ∃ T, b ++ UInt8.ofNat (kB m) :: beB (kB m) m = T := ⟨_, rfl⟩
  have hTl : T.length = b.length + kB m + 1 := by rw [← hT]; simp [hbl]; omega
  refine zQ 1 ?_;refine EvC.loop (fun mm fr st => ∃ (j : Nat) (y : D) (pre : List UInt8), fr.clean = ⟨9, [ixF_Nd fr 0, ixF_Nd fr 1, ixF_Nd fr 2, ixF_Nd fr 3, ixF_Nd fr 4, y, .int .u64 (m : Nat), ixF_Nd fr 7, .int .i64 ((j : Int) - 1)], []⟩ ∧ Has s0.bs.length S st [.lst y 1 (byteCells pre)] ∧ (j = mm) ∧ (j ≤ kB m) ∧ (pre ++ beB j m = T)) (kB m) ?_ ?_
  ·exact ⟨kB m, x30, b ++ [UInt8.ofNat (kB m)], rfl, hH, rfl, Nat.le_refl _, (by rw [← hT, List.append_assoc]; rfl)⟩
  rintro mm fr st ⟨j, y, pre, hfr, hH, hj, hjk, hp⟩;rw [hfr];clear hfr;generalize ixF_Nd fr = ee;clear fr;have hpl : pre.length + j = T.length := by rw [← hp, List.length_append, hbl]
  have hbp := byteCells_len pre;refine zQ 6 ?_
  cases j with
  | succ j =>
   have hc : decide (((j + 1 : Nat) : Int) - 1 ≥ 0) = true := by rw [decide_eq_true_eq]; omega
   refine qD rfl (by rw [hc]) ?_;refine zQ 1 ?_;have hje : ((j + 1 : Nat) : Int) - 1 = (j : Nat) := by omega
   rw [hje];have hq : m / 256 ^ j % 256 < 256 := Nat.mod_lt _ (by decide);refine zQ 6 ?_;refine EvO.go (d := .int .u64 (j : Nat)) (st1 := _) rfl rfl (by exact cvU_op j (by omega) _) (put_T rfl _) ?_;refine EvO.go (d := .int .u64 ((8 * j : Nat) : Int)) (st1 := _) rfl rfl (by exact mul8_op j (by omega) _) (put_T rfl _) ?_;refine EvO.go (d := .int .u64 ((m / 256 ^ j : Nat) : Int)) (st1 := _) rfl rfl (by exact shr8_op m j (by omega) _) (put_T rfl _) ?_;refine EvO.go (d := .int .u8 ((m / 256 ^ j % 256 : Nat) : Int)) (st1 := _) rfl rfl (by exact cv8_op _ _) (put_T rfl _) ?_;refine qh (s := 1) (vs := [_]) hH fun k44 st hk44 hH => ?_;refine EvO.happendB (s := 1) hH rfl (ev rfl) (ev rfl) (by exact at1) (by exact hH.rows (by exact at0)) rfl rfl rfl rfl rfl rfl rfl ⟨(Nat.le_of_ble_eq_true rfl), (Nat.le_of_ble_eq_true rfl)⟩ (fun _ => (put_T rfl _)) rfl (by simp only [List.length_cons, List.length_nil, List.length_map] <;> omega) (by exact .inl hF) (fun x45 st hH => ?_);dsimp only [u2, u1, u3, u4, setMany, u5, u6, D.cells, Nat.reduceAdd] at hH;refine zQ 2 ?_
   have hH : Has s0.bs.length S st [.lst x45 1 (byteCells (pre ++ [UInt8.ofNat (m / 256 ^ j)]))] := by
    rw [bc_app, cell8m]; exact hH.drop 1
   refine zQ 2 ?_;refine EvO.subZ (z := ((j : Int) - 1)) rfl (ev rfl) (ev rfl) (by (try simp only [List.length_reverse, List.length_cons, List.length_nil, List.length_append, List.length_map, List.length_set]); rw [wrap_i64 (by omega) (by omega)] <;> omega) (put_T rfl _) ?_;refine zQ 2 ?_;exact ⟨j, by omega, ⟨j, x45, pre ++ [UInt8.ofNat (m / 256 ^ j)], rfl, hH, rfl, by omega, (by rw [List.append_assoc]; exact hp)⟩⟩
  | zero =>
   have hc : decide (((0 : Nat) : Int) - 1 ≥ 0) = false := rfl;refine qE rfl (by rw [hc]) ?_;refine zQ 1 ?_;have hpe : pre = T := by rw [← hp]; simp [beB]
   subst hpe;refine zQ 5 ?_;refine EvC.ret ⟨rx, _, _, _, rfl, rfl, ?_⟩;rw [hT];exact hH.leaveNw hSb hro
end Go.Proofs.YtecjacicdpejaaaGreat
namespace Go.Proofs.YtecjacicdpejaaaGreat
open Go.V Go
end Go.Proofs.YtecjacicdpejaaaGreat
namespace Go.Proofs.YtecjacicdpejaaaGreat
open Go.V Go
end Go.Proofs.YtecjacicdpejaaaGreat
namespace Go.Proofs.YtecjacicdpejaaaGreat
open Go.V Go
/- the plain law: the two ways to look at the first rune -/
end Go.Proofs.YtecjacicdpejaaaGreat
namespace Go.Proofs.YtecjacicdpejaaaGreat
open Go.V Go
end Go.Proofs.YtecjacicdpejaaaGreat
namespace Go.Proofs.YtecjacicdpejaaaGreat
open Go.V Go
end Go.Proofs.YtecjacicdpejaaaGreat
namespace Go.Proofs.YtecjacicdpejaaaGreat
open Go.V Go
theorem same_byte {st : St} {x y : D} {l : List UInt8} (hx : Bytes st x l) (hy : Bytes st y l) (hl : l.length < 4611686018427387904) : Ev pv 21 [x, y] st (.bool true) st := by
 refine Ev.mk1 rfl fi21 rfl rfl rfl ?_;refine zE ?_;have hx := hx.enter .ro;have hy := hy.enter .ro;have hlen : (byteCells l).length = l.length := byteCells_len l;refine zR ?_;refine zU ?_
 refine zW ?_
 refine EvO.len rfl rfl rfl hx rfl ?_
 refine zW ?_
 refine EvO.len rfl rfl rfl hy rfl ?_;refine zX ?_;refine zN ?_;(repeat refine qq ?_);refine qc (fun h1 => ?_) (fun h1 => ?_) <;> try simp only [cs] at h1
 ·exact absurd trivial h1
 refine EvC.skip ?_;refine zR ?_;(repeat refine qq ?_);refine EvC.block ?_;refine EvC.loop (fun j fr st' => ∃ i : Nat, fr.clean = ⟨6, [x, y, .tup [], .tup [], .bool false, .int .i64 (i : Nat)], []⟩ ∧ st' = enterSt .ro st ∧ i + j = l.length) l.length ⟨0, rfl, rfl, by omega⟩ ?_;rintro j fr st' ⟨i, hfr, rfl, hij⟩;rw [hfr];refine zU ?_
 refine zW ?_
 refine zW ?_
 refine EvO.len rfl rfl rfl hx rfl ?_;refine zX ?_;refine zN ?_;rw [hlen];(try refine qy ?_);(repeat refine qq ?_);refine qc (fun h2 => ?_) (fun h2 => ?_) <;> try simp only [cs] at h2
 ·refine EvC.skip ?_;(try refine qy ?_)
  obtain ⟨g, hg⟩ : ∃ g, l[i]? = some g := ⟨l[i]'(by omega), List.getElem?_eq_getElem _⟩
  have hr := byteCells_get hg;(try refine qy ?_);(repeat refine qq ?_);refine EvC.block ?_;refine zU ?_
  refine zW ?_
  refine zW ?_
  refine EvO.idxLoad rfl rfl rfl (fun _ => rfl) rfl rfl hx rfl rfl (by omega) hr rfl (fun p => ?_)
  refine zW ?_
  refine zW ?_
  refine EvO.idxLoad rfl rfl rfl (fun _ => rfl) rfl rfl hy rfl rfl (by omega) hr rfl (fun p => ?_);refine zX ?_;refine zN ?_;(repeat refine qq ?_);refine qc (fun h3 => ?_) (fun h3 => ?_) <;> try simp only [cs] at h3
  ·exact absurd trivial h3
  refine EvC.skip ?_;refine zR ?_;rw [wrap_i64 (by omega) (by omega)];exact ⟨j - 1, by omega, i + 1, rfl, rfl, by omega⟩
 ·refine EvC.exit ?_;refine zR ?_;refine EvC.ret ⟨rx, _, rfl, leave_same (by simp) (by simp [enterSt]) ?_⟩
  rfl
def bytesV (b : List UInt8) : D := .sl ((byteCells b).map (elD 1))
theorem byteCells_one (b : List UInt8) : ∀ e ∈ byteCells b, e.length = 1 := by
 intro e he; obtain ⟨y, _, rfl⟩ := List.mem_map.1 he; rfl
theorem byteCells_plain (b : List UInt8) : ∀ e ∈ byteCells b, ∀ d ∈ e, plainC d = true := by
 intro e he d hd; obtain ⟨y, _, rfl⟩ := List.mem_map.1 he;simp only [List.mem_cons, List.not_mem_nil, or_false] at hd;subst hd; rfl
theorem bytesV_ok (st : St) (b : List UInt8) : Bytes st (bytesV b) b := Rows.ofFrozen (byteCells_one b) (byteCells_plain b)
def u8D (y : UInt8) : D := .int .u8 (y.toNat : Nat)
theorem byteCells_flat (b : List UInt8) : (byteCells b).flatten = b.map u8D := by
 induction b with
 | nil => rfl
 | cons y b ih => simp only [byteCells, List.map_cons, List.flatten_cons] at ih ⊢; rw [ih]; rfl
/-- a window on bytes -/
theorem bytes_win {st : St} {k ver : Nat} {ar : Bool} {b : List UInt8} (hm : st.bs[k]? = some (.mem ver ar (b.map u8D))) : Bytes st (.win k ver 0 b.length 1) b := by
 have := Rows.win (st := st) (s := 1) k ver 0 (byteCells b) ar (b.map u8D) (St.mem_of hm) (by simp [byteCells]) fun i e hi => by
  rw [← byteCells_flat, Nat.zero_add]; exact flat_at (byteCells_one b) i e hi
 rwa [byteCells_len] at this
theorem freeze_bytes {N : Nat} {st : St} {k ver : Nat} {b : List UInt8} (hN : N ≤ k) (hm : st.bs[k]? = some (.mem ver true (b.map u8D))) : freezeD st N false 16 (.win k ver 0 b.length 1) = some (bytesV b) := by
 have := (Acc.win (N := N) (st := st) (s := 1) k ver (byteCells b) hN (by rw [byteCells_flat]; exact hm) (byteCells_one b)).freeze (byteCells_plain b) (n := 15) (by decide)
 rwa [byteCells_len] at this
theorem roomy_ev {st : St} {x : D} {b : List UInt8} {m : UInt8} (hb : Bytes st x b) (hlen : b.length ≤ 1048576) : Ev pv 18 [x, .int .u8 (m.toNat : Nat)] st (bytesV (b ++ List.replicate 80 m)) st := by
 refine Ev.mk1 rfl fi18 rfl rfl rfl ?_;refine zE ?_;have hx := hb.ref;have hb1 := hb.enter .ro;refine zR ?_;refine zU ?_
 refine zW ?_
 refine EvO.len rfl rfl rfl hb1 rfl ?_
 refine zW ?_
 rw [show wrapD .i64 (((byteCells b).length : Nat) + 80 : Int) = ((b.length + 80 : Nat) : Int) by rw [byteCells_len, wrap_i64 (by omega) (by omega)]; rfl];refine EvO.makeSlice rfl rfl rfl rfl rfl rfl rfl rfl (by show (b.length + 80) * 1 ≤ _; omega) (by omega) ?_;refine zX ?_;refine zN ?_;have hex0 : Ex st.bs.length (enterSt .ro st) ((enterSt .ro st).push (.mem 0 true (repl (b.length + 80) [ofVal (.int .u8 0)]))) := Ex.push (st := enterSt .ro st) (Nat.le_refl _) _;have hb2 := Rows.ex hex0 hb1 hx;refine zU ?_
 refine zW ?_
 refine zW ?_
 refine EvO.copy (k := st.bs.length) (ver := 0) (off := 0) (len := b.length + 80) (s := 1) (ys := byteCells b) (ar := true) (c := repl (b.length + 80) [.int .u8 0]) rfl rfl rfl rfl hb2 rfl rfl (push_at (enterSt .ro st) _) (by rw [repl_one]; simp) (canW_own (N := st.bs.length) (Nat.le_refl _) (Nat.le_refl _) (Nat.le_refl _)) ?_;refine zX ?_;refine zN ?_;rw [push_set (st := enterSt .ro st) (k := st.bs.length) rfl]
 have hc0 : (repl (b.length + 80) [D.int .u8 0]).take 0 ++ (byteCells b).flatten.take (min (byteCells b).length (b.length + 80) * 1) ++ (repl (b.length + 80) [D.int .u8 0]).drop (0 + min (byteCells b).length (b.length + 80) * 1) = (b ++ List.replicate 80 0).map u8D := by
  have h1 : min (byteCells b).length (b.length + 80) * 1 = b.length := by rw [byteCells_len]; omega
  have h2 : (b.map u8D).length = b.length := List.length_map ..;rw [h1, byteCells_flat, repl_one, List.take_zero, List.nil_append, Nat.zero_add, List.drop_replicate, List.map_append]
  congr 1
  ·rw [← h2, List.take_length]
  ·rw [List.map_replicate]; congr 1; omega
 rw [hc0];generalize hS : (enterSt .ro st).push (.mem 0 true ((b ++ List.replicate 80 0).map u8D)) = st1;have hb3 : V.Rows st1 1 x (byteCells b) := by subst hS; exact hb1.ex (N := st.bs.length) (Ex.push (st := enterSt .ro st) (Nat.le_refl _) _) hx
 refine zU ?_
 refine zW ?_
 refine EvO.len rfl rfl rfl hb3 rfl ?_;refine zX ?_;refine zN ?_;rw [byteCells_len];(try refine qy ?_);(repeat refine qq ?_);refine EvC.block ?_;refine EvC.loop (fun j fr st' => ∃ i : Nat, fr.clean = ⟨7, [x, .int .u8 (m.toNat : Nat), .tup [], .tup [], .nul, .win st.bs.length 0 0 (b.length + 80) 1, .int .i64 ((b.length + i : Nat) : Int)], []⟩ ∧ st' = (enterSt .ro st).push (.mem 0 true ((b ++ (List.replicate i m ++ List.replicate j 0)).map u8D)) ∧ i + j = 80) 80 ⟨0, rfl, hS.symm, by omega⟩ ?_;rintro j fr st' ⟨i, hfr, rfl, hij⟩;rw [hfr];have hbl : (b ++ (List.replicate i m ++ List.replicate j 0)).length = b.length + 80 := by simp; omega
 have hwin : ∀ (st : St) (j : Nat), i + j = 80 → Bytes ((enterSt .ro st).push (.mem 0 true ((b ++ (List.replicate i m ++ List.replicate j 0)).map u8D))) (.win st.bs.length 0 0 (b.length + 80) 1) (b ++ (List.replicate i m ++ List.replicate j 0)) := by
  intro st j hij;have := bytes_win (st := (enterSt .ro st).push (.mem 0 true ((b ++ (List.replicate i m ++ List.replicate j 0)).map u8D))) (k := st.bs.length) (ver := 0) (ar := true) (b := b ++ (List.replicate i m ++ List.replicate j 0)) (push_at (enterSt .ro st) _);have e : (b ++ (List.replicate i m ++ List.replicate j 0)).length = b.length + 80 := by simp; omega
  rwa [e] at this
 refine zU ?_
 refine zW ?_
 refine zW ?_
 refine EvO.len rfl rfl rfl (hwin st j hij) rfl ?_;refine zX ?_;refine zN ?_;rw [byteCells_len, hbl];(try refine qy ?_);(repeat refine qq ?_);refine qc (fun h1 => ?_) (fun h1 => ?_) <;> try simp only [cs] at h1
 ·refine EvC.skip ?_;(try refine qy ?_);(repeat refine qq ?_);refine EvC.block ?_
  obtain ⟨j, rfl⟩ : ∃ j', j = j' + 1 := ⟨j - 1, by omega⟩
  refine zU ?_
  refine zW ?_
  refine zW ?_
  refine zW ?_
  refine EvO.idxStore (kk := .i64) (i := ((b.length + i : Nat) : Int)) (k := st.bs.length) (ver := 0) (off := 0) (len := b.length + 80) (s := 1) (v := .int .u8 (m.toNat : Nat)) (cs := [u8D m]) (ar := true) (c := (b ++ (List.replicate i m ++ List.replicate (j + 1) 0)).map u8D) rfl rfl rfl rfl rfl rfl rfl rfl rfl rfl (by omega) (by omega) (push_at (enterSt .ro st) _) (by rw [List.length_map, hbl]; omega) (canW_own (N := st.bs.length) (Nat.le_refl _) (Nat.le_refl _) (Nat.le_refl _)) ?_;refine zN ?_;rw [push_set (st := enterSt .ro st) (k := st.bs.length) rfl]
  have hc1 : ((b ++ (List.replicate i m ++ List.replicate (j + 1) 0)).map u8D).take (0 + ((b.length + i : Nat) : Int).toNat * 1) ++ [u8D m] ++ ((b ++ (List.replicate i m ++ List.replicate (j + 1) 0)).map u8D).drop (0 + ((b.length + i : Nat) : Int).toNat * 1 + 1) = (b ++ (List.replicate (i + 1) m ++ List.replicate j 0)).map u8D := by
   have e : 0 + ((b.length + i : Nat) : Int).toNat * 1 = (b ++ List.replicate i m).length := by rw [List.length_append, List.length_replicate]; omega
   rw [e, ← List.append_assoc, List.replicate_succ (n := j), List.map_append, List.map_cons];have e2 : (b ++ List.replicate i m).length = ((b ++ List.replicate i m).map u8D).length := by rw [List.length_map]
   rw [e2, List.take_left, ← List.drop_drop, List.drop_left, List.drop_succ_cons, List.drop_zero];rw [List.replicate_succ'];simp [List.map_append]
  rw [hc1];refine zR ?_;rw [wrap_i64 (by omega) (by omega)];refine ⟨j, by omega, i + 1, rfl, rfl, by omega⟩
 ·refine EvC.exit ?_;have hj : j = 0 := by omega
  have hi : i = 80 := by omega
  subst hj hi;refine zR ?_;have hex9 := Ex.push (N := st.bs.length) (st := enterSt .ro st) (Nat.le_refl _) (.mem 0 true ((b ++ (List.replicate 80 m ++ List.replicate 0 0)).map u8D));refine EvC.ret ⟨rx, _, rfl, leave_same (by simp) (hex9.take rfl) ?_⟩;have := freeze_bytes (N := st.bs.length) (st := (enterSt .ro st).push (.mem 0 true ((b ++ (List.replicate 80 m ++ List.replicate 0 0)).map u8D))) (k := st.bs.length) (ver := 0) (b := b ++ List.replicate 80 m) (Nat.le_refl _) (push_at (enterSt .ro st) _);rw [show (b ++ List.replicate 80 m).length = b.length + 80 by simp] at this;exact this
theorem intact_ev {st : St} {x y : D} {b : List UInt8} {m : UInt8} (hx : Bytes st x (b ++ List.replicate 80 m)) (hy : Bytes st y b) (hlen : b.length ≤ 1048576) : Ev pv 28 [x, y, .int .u8 (m.toNat : Nat)] st (.bool true) st := by
 refine Ev.mk1 rfl fi28 rfl rfl rfl ?_;refine zE ?_;have hx1 := hx.enter .ro;have hy1 := hy.enter .ro;have hxl : (byteCells (b ++ List.replicate 80 m)).length = b.length + 80 := by rw [byteCells_len]; simp
 have hyl := byteCells_len b;refine zR ?_;refine zU ?_
 refine zW ?_
 refine EvO.len rfl rfl rfl hx1 rfl ?_
 refine zW ?_
 refine EvO.len rfl rfl rfl hy1 rfl ?_
 refine zW ?_
 rw [hxl, hyl, show wrapD .i64 ((b.length : Int) + 80) = ((b.length + 80 : Nat) : Int) by rw [wrap_i64 (by omega) (by omega)]; rfl];refine EvO.T rfl rfl rfl (d := .bool false) (st1 := enterSt .ro st) ?_ ?_
 ·show some (D.bool (((b.length + 80 : Nat) : Int) != ((b.length + 80 : Nat) : Int)), enterSt .ro st) = _;simp
 refine zW ?_
 refine zW ?_
 refine zW ?_
 refine EvO.len rfl rfl rfl hy1 rfl ?_;refine EvO.slice rfl rfl rfl hx1 rfl rfl (l := 0) (r := b.length) ?_ ⟨by omega, by omega⟩ fun y2 hy3 hyr2 => ?_
 ·show boundsD _ none (some (.int .i64 ((byteCells b).length : Nat))) = _;rw [hxl, hyl];simp only [boundsD, optBound, boundD, Option.bind_some];rw [if_pos ⟨by omega, by omega⟩]; rfl
 have hy4 : Bytes (enterSt .ro st) y2 b := by
  have : ((byteCells (b ++ List.replicate 80 m)).take b.length).drop 0 = byteCells b := by
   rw [← hyl]; simp [byteCells]
  unfold Bytes; rw [← this]; exact hy3
 refine zW ?_
 refine EvO.callT rfl rfl rfl (same_byte hy4 hy1 (by omega)) ?_;refine zX ?_;refine zN ?_;refine EvC.cond (v := false) rfl (fun h => by cases h) fun _ => ?_;refine EvC.skip ?_;refine zU ?_
 refine zW ?_
 refine EvO.len rfl rfl rfl hy1 rfl ?_;refine zX ?_;refine zN ?_;rw [hyl];(try refine qy ?_);(repeat refine qq ?_);refine EvC.block ?_;refine EvC.loop (fun j fr st' => ∃ i : Nat, fr.clean = ⟨8, [x, y, .int .u8 (m.toNat : Nat), .tup [], .tup [], .tup [], .bool false, .int .i64 ((b.length + i : Nat) : Int)], []⟩ ∧ st' = enterSt .ro st ∧ i + j = 80) 80 ⟨0, rfl, rfl, by omega⟩ ?_;rintro j fr st' ⟨i, hfr, rfl, hij⟩;rw [hfr];refine zU ?_
 refine zW ?_
 refine zW ?_
 refine EvO.len rfl rfl rfl hx1 rfl ?_;refine zX ?_;refine zN ?_;rw [hxl];(try refine qy ?_);(repeat refine qq ?_);refine qc (fun h1 => ?_) (fun h1 => ?_) <;> try simp only [cs] at h1
 ·refine EvC.skip ?_;(try refine qy ?_);(repeat refine qq ?_);refine EvC.block ?_
  have hr : (b ++ List.replicate 80 m)[b.length + i]? = some m := by
   rw [List.getElem?_append_right (by omega), List.getElem?_replicate];rw [if_pos (by omega)]
  have hr2 := byteCells_get hr;refine zU ?_
  refine zW ?_
  refine zW ?_
  refine EvO.idxLoad rfl rfl rfl (fun _ => rfl) rfl rfl hx1 rfl rfl (by omega) hr2 rfl (fun p => ?_);refine zX ?_;refine zN ?_;(repeat refine qq ?_);refine qc (fun h3 => ?_) (fun h3 => ?_) <;> try simp only [cs] at h3
  ·exact absurd trivial h3
  refine EvC.skip ?_;refine zR ?_;rw [wrap_i64 (by omega) (by omega)];exact ⟨j - 1, by omega, i + 1, rfl, rfl, by omega⟩
 ·refine EvC.exit ?_;refine zR ?_;refine EvC.ret ⟨rx, _, rfl, leave_same (by simp) (by simp [enterSt]) ?_⟩
  rfl
end Go.Proofs.YtecjacicdpejaaaGreat
namespace Go.V
variable {N : Nat} {S st : St} {H : List Ent}
theorem All2.at_ {α β : Type} {R : α → β → Prop} : ∀ {l : List α} {m : List β} {i : Nat} {b : β}, All2 R l m → m[i]? = some b → ∃ a, l[i]? = some a ∧ R a b
  | _, _, _, _, .nil, h => by simp at h
  | _, _, 0, _, .cons a t, h => by simp only [List.getElem?_cons_zero, Option.some.injEq] at h; subst h; exact ⟨_, rfl, a⟩
  | _, _, i + 1, _, .cons a t, h => by simp only [List.getElem?_cons_succ] at h ⊢; exact t.at_ h
theorem All2.set {α β : Type} {R : α → β → Prop} {a : α} {b : β} (r : R a b) : ∀ {l : List α} {m : List β} (i : Nat), All2 R l m → All2 R (l.set i a) (m.set i b)
  | _, _, _, .nil => .nil
  | _, _, 0, .cons _ t => .cons r t
  | _, _, i + 1, .cons h t => .cons h (t.set r i)
theorem All2.setMany {R : D → D → Prop} : ∀ {xs ys : List D} {c d : List D} (o : Nat), All2 R xs ys → All2 R c d → All2 R (setMany c o xs) (setMany d o ys)
  | _, _, _, _, _, .nil, h => h
  | _, _, _, _, o, .cons r t, h => by simp only [Go.V.setMany]; exact t.setMany (o + 1) (h.set r o)
theorem All2.same {R : D → D → Prop} : ∀ {l : List D}, (∀ d ∈ l, R d d) → All2 R l l
  | [], _ => .nil
  | d :: l, h => .cons (h d (List.mem_cons_self ..)) (All2.same fun x hx => h x (List.mem_cons_of_mem _ hx))
variable {P : Pv} {ops : Array Oper} {rest : List Oper} {fr fr' : Fr} {Q : Fr → St → Prop} {ty : TypeId} {pp : String} {a : Array Edge} {g : Option (Nat × Bool)} {dst : Nat}
theorem EvC.merge3 {dy : Dy} {c1 c2 : Code} {fr : Fr} {st : St} {Q : Out → Fr → St → Prop} (M : Fr → St → Prop) (h1 : EvC P dy c1 fr st (SeqQ P dy c2 (MergeQ M Q))) (h2 : ∀ fr' st', M fr' st' → Q .next fr' st') : EvC P dy c1 fr st (SeqQ P dy c2 Q) :=
  h1.mono fun o fr' st' h => by
    cases o with
    | next => exact EvC.merge M h h2
    | exit i => exact h
    | ret => exact h
end Go.V
namespace Go.Proofs.YtecjacicdpejaaaGreat
open Go.V Go
def ixF_Ne (fr : Go.V.Fr) (k : Nat) : Go.V.D := Go.V.nth .junk fr.loc k
def textB (t : List UInt8) : List UInt8 := numB (t.length : Nat) ++ t
theorem wText_ev {s0 : St} {x : D} {b t : List UInt8} (hx : V.Rows s0 1 x (byteCells b)) (hl : b.length ≤ 50000000000) (ht : t.length ≤ 1048576) :
  Ev pv 81 [x, .str t] s0 (bytesV (b ++ textB t)) s0 := by
 have hnl := numB_le (t.length : Nat);refine Ev.mk1 rfl fi81 rfl rfl rfl ?_;refine zE ?_;obtain ⟨hSb, hF, hH⟩ := ri s0;generalize enterSt .ro s0 = S at *;have hx := Arg.of hx hSb;refine zQ 4 ?_;obtain ⟨hf1, hf2⟩ := hH.fine hF;refine zQ 4 ?_;refine EvO.slen rfl rfl rfl (put_T rfl _) ?_;refine EvO.addZ (z := ((9 + t.length : Nat) : Int)) rfl (ev rfl) (ev rfl) (by (try simp only [List.length_reverse, List.length_cons, List.length_nil, List.length_append, List.length_map, List.length_set]); rw [wrap_i64 (by omega) (by omega)] <;> omega) (put_T rfl _) ?_;obtain ⟨d10, st, hev, ho⟩ := wMore_ev (x := x) (b := b) hf1 hf2 (hx.rows hH) (by omega) (9 + t.length) (by omega);have hH := hH.ovr ho
 (try dsimp only [u3, u4] at hH)
 refine qv hev ?_;refine qm ?_;refine EvO.slen rfl rfl rfl (put_T rfl _) ?_;obtain ⟨hf1, hf2⟩ := hH.fine hF;obtain ⟨d13, st, hev, ho⟩ := wNum_ev (x := d10) (b := b) hf1 hf2 (hH.rows at0) (by omega) (t.length : Nat) (by omega);have hH := hH.ovr ho
 (try dsimp only [u3, u4] at hH)
 refine qv hev ?_;refine zQ 2 ?_;have hbl : (byteCells (b ++ numB (t.length : Nat))).length = b.length + (numB (t.length : Nat)).length := by rw [byteCells_len, List.length_append]
 refine zQ 4 ?_;refine EvO.happendS hH rfl (ev rfl) (ev rfl) at0 rfl rfl rfl rfl rfl rfl rfl ⟨(Nat.le_of_ble_eq_true rfl), (Nat.le_of_ble_eq_true rfl)⟩ (fun _ => (put_T rfl _)) rfl (by omega) (fun x16 st hH => ?_);dsimp only [u2] at hH;refine zQ 2 ?_
 have hH : Has s0.bs.length S st (.lst x16 1 (byteCells (b ++ textB t)) :: [.lst d10 1 (byteCells b)]) := by
  unfold textB; rw [← List.append_assoc, bc_app]; exact hH
 refine EvC.ret ⟨rx, _, rfl, rl hSb hH ?_⟩;exact hH.freezeL at0 (byteCells_plain _) (by decide)
theorem shr8i_op (m : Nat) (st : St) : (binD pv .shr 3 (.int .i64 (m : Nat)) (.int .i64 8)).map (fun d => (d, st)) = some (.int .i64 ((m / 256 : Nat) : Int), st) := by
 show Option.map _ (some (D.int .i64 (Int.fdiv (m : Nat) (2 ^ 8)))) = _;have := fdiv8 m 1;simp only [Nat.mul_one, Nat.pow_one] at this;rw [this]; rfl
theorem shr8k_op (m k : Nat) (hk : k ≤ 8) (st : St) : (binD pv .shr 3 (.int .i64 (m : Nat)) (.int .i64 ((8 * k : Nat) : Int))).map (fun d => (d, st)) = some (.int .i64 ((m / 256 ^ k : Nat) : Int), st) := by
 show Option.map _ (if ((8 * k : Nat) : Int) < 0 then none else some (D.int .i64 (Int.fdiv (m : Nat) (2 ^ (min ((8 * k : Nat) : Int).toNat 64))))) = _;rw [if_neg (by omega), Int.toNat_natCast, Nat.min_eq_left (by omega), fdiv8]; rfl
theorem cv8i_op (q : Nat) (st : St) : convD pv 3 5 (.int .i64 (q : Nat)) st = some (.int .u8 ((q % 256 : Nat) : Int), st) := by
 show some (D.int .u8 (wrapD .u8 (q : Nat)), st) = _;rw [wrap8n]
theorem rNum_ev {s0 : St} {x : D} {b : List UInt8} (hF : s0.flr ≤ s0.bs.length) (hro : s0.ro ≤ s0.bs.length) (hx : V.Rows s0 1 x (byteCells b)) (hl : b.length ≤ 60000000000) (n : Int) (hn : n < 9223372036854775808) :
  ∃ d st', Ev pv 34 [x, .int .i64 n] s0 d st' ∧ OutB s0 st' d (b ++ numB n) := by
 obtain ⟨m, hm⟩ : ∃ m, n.toNat = m := ⟨_, rfl⟩
 have hm2 : m < 256 ^ 8 := by omega
 obtain ⟨hk1, hk2⟩ := kB_spec hm2;have hk8 := kB_le m;have hnb : numB n = UInt8.ofNat (kB m) :: beB (kB m) m := by unfold numB; rw [hm]
 have hbc := byteCells_len b;rw [hnb];refine Ev.mkE rfl fi34 rfl rfl rfl ?_;refine zE ?_;have hSb : (enterSt .nw s0).bs = s0.bs := rfl;have hF : (enterSt .nw s0).flr ≤ s0.bs.length := hF;have hH : Has s0.bs.length (enterSt .nw s0) (enterSt .nw s0) [] := Has.start (Nat.le_refl _) (Nat.le_refl _);generalize enterSt .nw s0 = S at *;have hx := Arg.of hx hSb;refine zQ 6 ?_;refine EvO.hlist0 (s := 1) hH rfl rfl rfl rfl rfl (fun _ => (put_T rfl _)) (fun k9 st hk9 hH => ?_);refine qm ?_;refine EvO.happendB (s := 1) hH rfl (ev rfl) (ev rfl) (by exact at0) (by exact Arg.rows (by assumption) hH) rfl rfl rfl rfl rfl rfl rfl ⟨(Nat.le_of_ble_eq_true rfl), (Nat.le_of_ble_eq_true rfl)⟩ (fun _ => (put_T rfl _)) rfl (by simp only [List.length_nil] <;> omega) (by exact .inl hF) (fun x11 st hH => ?_);dsimp only [u2, u1, u3, u4, setMany, u5, u6, D.cells, Nat.reduceAdd] at hH;refine zQ 2 ?_;have hH : Has s0.bs.length S st [.lst x11 1 (byteCells b)] := hH;refine zQ 2 ?_;refine EvC.merge3 (fun fr st => ∃  (tmp : List (Nat × D)), fr = ⟨9, [x, .int .i64 (m : Nat), ixF_Ne fr 2, ixF_Ne fr 3, ixF_Ne fr 4, x11, ixF_Ne fr 6, ixF_Ne fr 7, ixF_Ne fr 8], tmp⟩ ∧ Has s0.bs.length S st [.lst x11 1 (byteCells b)] ∧ (True)) ?_ ?_
 ·refine zQ 4 ?_;refine zP (fun h0 => ?_) fun h0 => ?_
  ·refine zQ 3 ?_;have hm0 : m = 0 := by omega
   subst hm0;exact ⟨_, rfl, hH, trivial⟩
  ·refine zQ 1 ?_;have hnm : n = (m : Nat) := by omega
   subst hnm;exact ⟨_, rfl, hH, trivial⟩
 ·rintro fr st ⟨tmp, hfr, hH, ht⟩;rw [hfr];clear hfr;generalize ixF_Ne fr = ee;clear fr;refine zQ 11 ?_;refine EvC.loop (fun mm fr st => ∃ (k q : Nat), fr.clean = ⟨9, [ixF_Ne fr 0, .int .i64 (m : Nat), ixF_Ne fr 2, ixF_Ne fr 3, ixF_Ne fr 4, x11, .int .i64 (k : Nat), .int .i64 (q : Nat), ixF_Ne fr 8], []⟩ ∧ Has s0.bs.length S st [.lst x11 1 (byteCells b)] ∧ (q = mm) ∧ (q = m / 256 ^ k) ∧ (k ≤ kB m)) (m) ?_ ?_
  ·exact ⟨0, m, rfl, hH, rfl, by simp, by omega⟩
  rintro mm fr st ⟨k, q, hfr, hH, hq, hqk, hkk⟩;rw [hfr];clear hfr;generalize ixF_Ne fr = ee;clear fr;refine zQ 6 ?_
  by_cases hq0 : 0 < q
  ·have hlt : k < kB m := by
    rcases Nat.lt_or_ge k (kB m) with h | h
    ·exact h
    ·have : k = kB m := by omega
     subst this;omega
   have hc : decide (((q : Nat) : Int) > 0) = true := by rw [decide_eq_true_eq]; omega
   refine qD rfl (by rw [hc]) ?_;refine zQ 10 ?_;refine EvO.go (d := .int .i64 ((q / 256 : Nat) : Int)) (st1 := _) rfl rfl (by exact shr8i_op q _) (put_T rfl _) ?_;refine zQ 2 ?_;have hd : q / 256 < q := Nat.div_lt_self hq0 (by decide);exact ⟨q / 256, by omega, k + 1, q / 256, rfl, hH, rfl, by rw [hqk, Nat.pow_succ, Nat.div_div_eq_div_mul], by omega⟩
  ·have hc : decide (((q : Nat) : Int) > 0) = false := by rw [decide_eq_false_iff_not]; omega
   have hke : k = kB m := by
    rcases Nat.lt_or_ge k (kB m) with h | h
    ·have := hk2 k h; omega
    ·omega
   subst hke;refine qE rfl (by rw [hc]) ?_;refine zQ 5 ?_;refine EvO.go (d := .int .u8 (kB m : Nat)) (st1 := _) rfl rfl (by show some (D.int .u8 (wrapD .u8 (kB m : Nat)), _) = _; rw [wrap_nat (by simp only [maxN]; omega)]) (put_T rfl _) ?_;refine qh (s := 1) (vs := [_]) hH fun k24 st hk24 hH => ?_;refine EvO.happendB (s := 1) hH rfl (ev rfl) (ev rfl) (by exact at1) (by exact hH.rows (by exact at0)) rfl rfl rfl rfl rfl rfl rfl ⟨(Nat.le_of_ble_eq_true rfl), (Nat.le_of_ble_eq_true rfl)⟩ (fun _ => (put_T rfl _)) rfl (by simp only [List.length_cons, List.length_nil, List.length_map] <;> omega) (by exact .inl hF) (fun x25 st hH => ?_);dsimp only [u2, u1, u3, u4, setMany, u5, u6, D.cells, Nat.reduceAdd] at hH;refine zQ 2 ?_
   have hH : Has s0.bs.length S st [.lst x25 1 (byteCells (b ++ [UInt8.ofNat (kB m)]))] := by
    rw [bc_app, cell8 (by omega)]; exact hH.drop 1
   refine zQ 4 ?_;refine EvO.subS64 rfl (ev rfl) (ev rfl) (by omega) (by omega) (put_T rfl _) ?_;refine zQ 2 ?_;have hbl : ∀ j, (beB j m).length = j := fun j => beB_len j m
   obtain ⟨T, hT⟩ : ∃ T, b ++ UInt8.ofNat (kB m) :: beB (kB m) m = T := ⟨_, rfl⟩
   have hTl : T.length = b.length + kB m + 1 := by rw [← hT]; simp [hbl]; omega
   refine zQ 1 ?_;refine EvC.loop (fun mm fr st => ∃ (j : Nat) (y : D) (pre : List UInt8), fr.clean = ⟨9, [ixF_Ne fr 0, .int .i64 (m : Nat), ixF_Ne fr 2, ixF_Ne fr 3, ixF_Ne fr 4, y, ixF_Ne fr 6, ixF_Ne fr 7, .int .i64 ((j : Int) - 1)], []⟩ ∧ Has s0.bs.length S st [.lst y 1 (byteCells pre)] ∧ (j = mm) ∧ (j ≤ kB m) ∧ (pre ++ beB j m = T)) (kB m) ?_ ?_
   ·exact ⟨kB m, x25, b ++ [UInt8.ofNat (kB m)], rfl, hH, rfl, Nat.le_refl _, (by rw [← hT, List.append_assoc]; rfl)⟩
   rintro mm fr st ⟨j, y, pre, hfr, hH, hj, hjk, hp⟩;rw [hfr];clear hfr;generalize ixF_Ne fr = ee;clear fr;have hpl : pre.length + j = T.length := by rw [← hp, List.length_append, hbl]
   have hbp := byteCells_len pre;refine zQ 6 ?_
   cases j with
   | succ j =>
    have hc : decide (((j + 1 : Nat) : Int) - 1 ≥ 0) = true := by rw [decide_eq_true_eq]; omega
    refine qD rfl (by rw [hc]) ?_;refine zQ 1 ?_;have hje : ((j + 1 : Nat) : Int) - 1 = (j : Nat) := by omega
    rw [hje];have hq : m / 256 ^ j % 256 < 256 := Nat.mod_lt _ (by decide);refine zQ 6 ?_;refine EvO.mulZ (z := ((8 * j : Nat) : Int)) rfl (ev rfl) (ev rfl) (by rw [show (8 : Int) * (j : Nat) = ((8 * j : Nat) : Int) by omega, wrap_nat (by simp only [maxN]; omega)]) (put_T rfl _) ?_;refine EvO.go (d := .int .i64 ((m / 256 ^ j : Nat) : Int)) (st1 := _) rfl rfl (by exact shr8k_op m j (by omega) _) (put_T rfl _) ?_;refine EvO.go (d := .int .u8 ((m / 256 ^ j % 256 : Nat) : Int)) (st1 := _) rfl rfl (by exact cv8i_op _ _) (put_T rfl _) ?_;refine qh (s := 1) (vs := [_]) hH fun k38 st hk38 hH => ?_;refine EvO.happendB (s := 1) hH rfl (ev rfl) (ev rfl) (by exact at1) (by exact hH.rows (by exact at0)) rfl rfl rfl rfl rfl rfl rfl ⟨(Nat.le_of_ble_eq_true rfl), (Nat.le_of_ble_eq_true rfl)⟩ (fun _ => (put_T rfl _)) rfl (by simp only [List.length_cons, List.length_nil, List.length_map] <;> omega) (by exact .inl hF) (fun x39 st hH => ?_);dsimp only [u2, u1, u3, u4, setMany, u5, u6, D.cells, Nat.reduceAdd] at hH;refine zQ 2 ?_
    have hH : Has s0.bs.length S st [.lst x39 1 (byteCells (pre ++ [UInt8.ofNat (m / 256 ^ j)]))] := by
     rw [bc_app, cell8m]; exact hH.drop 1
    refine zQ 2 ?_;refine EvO.subZ (z := ((j : Int) - 1)) rfl (ev rfl) (ev rfl) (by (try simp only [List.length_reverse, List.length_cons, List.length_nil, List.length_append, List.length_map, List.length_set]); rw [wrap_i64 (by omega) (by omega)] <;> omega) (put_T rfl _) ?_;refine zQ 2 ?_;exact ⟨j, by omega, ⟨j, x39, pre ++ [UInt8.ofNat (m / 256 ^ j)], rfl, hH, rfl, by omega, (by rw [List.append_assoc]; exact hp)⟩⟩
   | zero =>
    have hc : decide (((0 : Nat) : Int) - 1 ≥ 0) = false := rfl;refine qE rfl (by rw [hc]) ?_;refine zQ 1 ?_;have hpe : pre = T := by rw [← hp]; simp [beB]
    subst hpe;refine zQ 5 ?_;refine EvC.ret ⟨rx, _, _, _, rfl, rfl, ?_⟩;rw [hT];exact hH.leaveNw hSb hro
theorem rText_ev {s0 : St} {x : D} {b t : List UInt8} (hx : V.Rows s0 1 x (byteCells b)) (hl : b.length ≤ 50000000000) (ht : t.length ≤ 1048576) :
  Ev pv 82 [x, .str t] s0 (bytesV (b ++ textB t)) s0 := by
 have hnl := numB_le (t.length : Nat);refine Ev.mk1 rfl fi82 rfl rfl rfl ?_;refine zE ?_;obtain ⟨hSb, hF, hH⟩ := ri s0;generalize enterSt .ro s0 = S at *;have hx := Arg.of hx hSb;refine zQ 4 ?_;obtain ⟨hf1, hf2⟩ := hH.fine hF;have hbl : (byteCells (b ++ numB (t.length : Nat))).length = b.length + (numB (t.length : Nat)).length := by rw [byteCells_len, List.length_append]
 refine zQ 4 ?_;refine EvO.slen rfl rfl rfl (put_T rfl _) ?_;obtain ⟨d8, st, hev, ho⟩ := rNum_ev (x := x) (b := b) hf1 hf2 (hx.rows hH) (by omega) (t.length : Nat) (by omega);have hH := hH.ovr ho
 (try dsimp only [u3, u4] at hH)
 refine qv hev ?_;refine qm ?_;refine EvO.happendS hH rfl (ev rfl) (ev rfl) at0 rfl rfl rfl rfl rfl rfl rfl ⟨(Nat.le_of_ble_eq_true rfl), (Nat.le_of_ble_eq_true rfl)⟩ (fun _ => (put_T rfl _)) rfl (by omega) (fun x10 st hH => ?_);dsimp only [u2] at hH;refine zQ 2 ?_
 have hH : Has s0.bs.length S st (.lst x10 1 (byteCells (b ++ textB t)) :: []) := by
  unfold textB; rw [← List.append_assoc, bc_app]; exact hH
 refine EvC.ret ⟨rx, _, rfl, rl hSb hH ?_⟩;exact hH.freezeL at0 (byteCells_plain _) (by decide)
end Go.Proofs.YtecjacicdpejaaaGreat
namespace Go.Proofs.YtecjacicdpejaaaGreat
open Go.V Go
def ixF_Oa (fr : Go.V.Fr) (k : Nat) : Go.V.D := Go.V.nth .junk fr.loc k
def rdC (x : D) (s : Rdr) : List D := [x, .int .i64 (s.at_ : Nat), .int .i64 s.e]
theorem cvi8_op (c : UInt8) (st : St) : convD pv 5 3 (.int .u8 (c.toNat : Nat)) st = some (.int .i64 (c.toNat : Nat), st) := by
 show some (D.int .i64 (wrapD .i64 (c.toNat : Nat)), st) = _;have h : c.toNat < 256 := c.toNat_lt;rw [wrap_nat (by simp only [maxN]; omega)]
theorem cv64_op (c : UInt8) (st : St) : convD pv 5 151 (.int .u8 (c.toNat : Nat)) st = some (.int .u64 (c.toNat : Nat), st) := by
 show some (D.int .u64 (wrapD .u64 (c.toNat : Nat)), st) = _;have h : c.toNat < 256 := c.toNat_lt;rw [wrap_nat (by simp only [maxN]; omega)]
theorem cvu_op (u : Nat) (h : u < 9223372036854775808) (st : St) : convD pv 151 3 (.int .u64 (u : Nat)) st = some (.int .i64 (u : Nat), st) := by
 show some (D.int .i64 (wrapD .i64 (u : Nat)), st) = _;rw [wrap_nat (by simp only [maxN]; omega)]
theorem shl8_op (u : Nat) (h : u * 256 < 18446744073709551616) (st : St) : (binD pv .shl 151 (.int .u64 (u : Nat)) (.int .i64 8)).map (fun d => (d, st)) = some (.int .u64 ((u * 256 : Nat) : Int), st) := by
 show Option.map _ (if (8 : Int) < 0 then none else some (D.int .u64 (wrapD .u64 ((u : Nat) * 2 ^ (min (8 : Int).toNat 64))))) = _
 rw [if_neg (by decide), show ((u : Nat) : Int) * 2 ^ (min (8 : Int).toNat 64) = ((u * 256 : Nat) : Int) by
  rw [show (min (8 : Int).toNat 64) = 8 from rfl]; omega, wrap_nat (by simp only [maxN]; omega)]
 rfl
theorem or8_op (u c : Nat) (hc : c < 256) (h : u * 256 + c < 18446744073709551616) (st : St) : (binD pv .or 151 (.int .u64 ((u * 256 : Nat) : Int)) (.int .u64 (c : Nat))).map (fun d => (d, st)) = some (.int .u64 ((u * 256 + c : Nat) : Int), st) := by
 show Option.map _ (some (D.int .u64 (wrapD .u64 ((BitVec.ofInt 64 ((u * 256 : Nat) : Int) ||| BitVec.ofInt 64 ((c : Nat) : Int)).toNat : Nat)))) = _;rw [BitVec.ofInt_natCast, BitVec.ofInt_natCast, BitVec.toNat_or, BitVec.toNat_ofNat, BitVec.toNat_ofNat, Nat.mod_eq_of_lt (by omega), Nat.mod_eq_of_lt (by omega)]
 have e : u * 256 ||| c = u * 256 + c := by
  have := Nat.shiftLeft_add_eq_or_of_lt (i := 8) (b := c) hc u;rw [Nat.shiftLeft_eq] at this;exact this.symm
 rw [e, wrap_nat (by simp only [maxN]; omega)]; rfl
theorem shr63_op (u : Nat) (st : St) : (binD pv .shr 151 (.int .u64 (u : Nat)) (.int .i64 63)).map (fun d => (d, st)) = some (.int .u64 ((u / 9223372036854775808 : Nat) : Int), st) := by
 show Option.map _ (if (63 : Int) < 0 then none else some (D.int .u64 (Int.fdiv (u : Nat) (2 ^ (min (63 : Int).toNat 64))))) = _;rw [if_neg (by decide), show (2 : Int) ^ (min (63 : Int).toNat 64) = ((9223372036854775808 : Nat) : Int) from rfl, Int.fdiv_eq_ediv_of_nonneg _ (Int.natCast_nonneg _)]; rfl
theorem gWrong_ev {N k : Nat} {S s0 : St} {H : List Ent} {x : D} {s : Rdr} (a : Nat) (e : Int) (hH : Has N S s0 (.box k (.mem 0 false (rdC x s)) :: H)) :
  ∃ d st', Ev pv 97 [.ptr k 0 0, .int .i64 (a : Nat), .int .i64 e] s0 d st' ∧ d = .int .i64 0 ∧ Has N S st' (.box k (.mem 0 false (rdC x ⟨a, e⟩)) :: H) := by
 refine Ev.mkE rfl fi97 rfl rfl rfl ?_;refine zE ?_;have hH0 := hH;have hH := hH.enterRw;have hS2 : (enterSt .rw s0).bs = s0.bs := rfl;generalize enterSt .rw s0 = S2 at *;refine zQ 12 ?_;refine qT hH at0 fun st hH => ?_;dsimp only [u2, u1, u3, u4, setMany, u5, u6, D.cells, Nat.reduceAdd, rdC] at hH;refine zQ 2 ?_;refine qT hH at0 fun st hH => ?_;dsimp only [u2, u1, u3, u4, setMany, u5, u6, D.cells, Nat.reduceAdd, rdC] at hH;refine zQ 5 ?_;refine EvC.ret ⟨rx, _, _, _, rfl, leaveD_rw (rfl), ?_⟩;exact ⟨rfl, hH0.leaveRw1 hS2 hH⟩
theorem gAt_ev {N k : Nat} {S s0 : St} {H : List Ent} {x : D} {s : Rdr} (hH : Has N S s0 (.box k (.mem 0 false (rdC x s)) :: H)) :
  ∃ d st', Ev pv 41 [.ptr k 0 0] s0 d st' ∧ d = .int .i64 (s.at_ : Nat) ∧ Has N S st' (.box k (.mem 0 false (rdC x s)) :: H) := by
 refine Ev.mkE rfl fi41 rfl rfl rfl ?_;refine zE ?_;have hH0 := hH;have hH := hH.enterRw;have hS2 : (enterSt .rw s0).bs = s0.bs := rfl;generalize enterSt .rw s0 = S2 at *;refine zQ 12 ?_;refine EvC.ret ⟨rx, _, _, _, rfl, leaveD_rw (rfl), ?_⟩;exact ⟨rfl, hH0.leaveRw1 hS2 hH⟩
theorem gErr_ev {N k : Nat} {S s0 : St} {H : List Ent} {x : D} {s : Rdr} (hH : Has N S s0 (.box k (.mem 0 false (rdC x s)) :: H)) :
  ∃ d st', Ev pv 42 [.ptr k 0 0] s0 d st' ∧ d = .int .i64 s.e ∧ Has N S st' (.box k (.mem 0 false (rdC x s)) :: H) := by
 refine Ev.mkE rfl fi42 rfl rfl rfl ?_;refine zE ?_;have hH0 := hH;have hH := hH.enterRw;have hS2 : (enterSt .rw s0).bs = s0.bs := rfl;generalize enterSt .rw s0 = S2 at *;refine zQ 12 ?_;refine EvC.ret ⟨rx, _, _, _, rfl, leaveD_rw (rfl), ?_⟩;exact ⟨rfl, hH0.leaveRw1 hS2 hH⟩
theorem own_part {N : Nat} {S st : St} {e : Ent} {H : List Ent} {x : D} {b : List UInt8} (hH : Has N S st (e :: .lst x 1 (byteCells b) :: H)) {l r : Nat} (h : l ≤ r ∧ r ≤ b.length) : V.Rows st 1 (prtD x l r) (byteCells ((b.take r).drop l)) := by
 have := (hH.rows at1).prtR (l := l) (r := r) (by rw [byteCells_len]; exact h);unfold byteCells at this ⊢;rw [List.map_drop, List.map_take]; exact this
theorem gNum_ev {N k : Nat} {S s0 : St} {H : List Ent} {x : D} {b : List UInt8} {s : Rdr} (hbl : b.length ≤ 1099511627776) (hok : s.at_ ≤ b.length) (hH : Has N S s0 (.box k (.mem 0 false (rdC x s)) :: .lst x 1 (byteCells b) :: H)) :
  ∃ d st', Ev pv 37 [.ptr k 0 0] s0 d st' ∧ d = .int .i64 (numR b s).1 ∧ Has N S st' (.box k (.mem 0 false (rdC x (numR b s).2)) :: .lst x 1 (byteCells b) :: H) := by
 refine Ev.mkE rfl fi37 rfl rfl rfl ?_;refine zE ?_;have hH0 := hH;have hH := hH.enterRw;have hS2 : (enterSt .rw s0).bs = s0.bs := rfl;generalize enterSt .rw s0 = S2 at *;refine zQ 13 ?_;refine EvC.cond (by rfl) (fun he => ?_) (fun he => ?_) <;> try simp only [bne_iff_ne, bne_eq_false_iff_eq, ne_eq] at he
 ·have hv : numR b s = (0, s) := by unfold numR; rw [if_pos he]
  rw [hv];refine zQ 4 ?_;refine EvC.ret ⟨rx, _, _, _, rfl, leaveD_rw (rfl), ?_⟩;exact ⟨rfl, hH0.leaveRw1 hS2 hH⟩
 refine zQ 1 ?_;have hbt : b.take b.length = b := List.take_length
 have hrest : ∀ {st : St} {e : Ent} {H : List Ent}, Has N S2 st (e :: .lst x 1 (byteCells b) :: H) → V.Rows st 1 (prtD x s.at_ b.length) (byteCells (b.drop s.at_)) := fun h => by
  have := own_part h (l := s.at_) (r := b.length) ⟨hok, Nat.le_refl _⟩
  rwa [hbt] at this
 have hv : numR b s = match b.drop s.at_ with
  | [] => (0, ⟨s.at_, 3⟩)
  | k :: rest =>
   if 8 < k.toNat then (0, ⟨s.at_, 4⟩)
   else if rest.length < k.toNat then (0, ⟨s.at_, 3⟩)
   else if (0 < k.toNat ∧ rest.head? = some 0) ∨ 9223372036854775808 ≤ valB 0 (rest.take k.toNat) then (0, ⟨s.at_, 4⟩)
   else ((valB 0 (rest.take k.toNat) : Nat), ⟨s.at_ + 1 + k.toNat, 0⟩) := by
  unfold numR; rw [if_neg (by simpa using he)] <;> (cases List.drop s.at_ b <;> rfl)
 refine zQ 10 ?_;refine EvO.prt rfl (ev rfl) (hH.rows at1) rfl rfl (bounds_from (by rw [byteCells_len]; exact hok)) ⟨by rw [byteCells_len]; exact hok, by rw [byteCells_len]; exact Nat.le_refl _⟩ (by dsimp only [Fr.put, u1, u2] <;> rfl) ?_;refine zQ 2 ?_;rw [byteCells_len];have hdl : (b.drop s.at_).length = b.length - s.at_ := List.length_drop;have hbcl := byteCells_len (b.drop s.at_);refine zQ 4 ?_;refine EvO.rlen rfl (ev rfl) (hrest hH) rfl (by dsimp only [Fr.put, u1, u2] <;> rfl) ?_;refine zQ 2 ?_;rw [hbcl]
 obtain ⟨R, hR⟩ : ∃ R, b.drop s.at_ = R := ⟨_, rfl⟩
 rw [hR] at hv hdl;simp only [hR] at hrest ⊢;clear hbcl
 cases R with
 | nil =>
  simp only at hv;rw [hv];refine EvC.cond (v := true) (by dsimp only [Fr.ev, Fr.get, nth, V.look]; rfl) (fun _ => ?_) (fun h => by cases h);refine zQ 7 ?_;obtain ⟨_, st, hev, rfl, hH⟩ := gWrong_ev s.at_ 3 hH;refine qv hev ?_;refine zQ 2 ?_;refine EvC.ret ⟨rx, _, _, _, rfl, leaveD_rw (rfl), ?_⟩;exact ⟨rfl, hH0.leaveRw1 hS2 hH⟩
 | cons c rest =>
 simp only at hv;simp only [List.length_cons] at hdl ⊢;have hc0 : (((rest.length + 1 : Nat) : Int) == 0) = false := by rw [beq_eq_false_iff_ne]; omega
 refine qE rfl (by rw [hc0]) ?_;refine zQ 1 ?_;have hr1 : (byteCells (c :: rest))[0]? = some [.int .u8 (c.toNat : Nat)] := rfl;refine zQ 3 ?_;refine EvO.ridx (i := 0) rfl (ev rfl) (ev rfl) (hrest hH) rfl rfl hr1 (fun _ => by dsimp only [Fr.put, u1, u2] <;> rfl) (fun p32 hp32 => ?_);refine EvO.rload rfl (ev rfl) hp32 rfl (by dsimp only [Fr.put, u1, u2] <;> rfl) ?_;refine EvO.go (d := .int .i64 (c.toNat : Nat)) (st1 := _) rfl rfl (by exact cvi8_op c _) (by dsimp only [Fr.put, u1, u2] <;> rfl) ?_;refine zQ 2 ?_
 obtain ⟨kn, hkn⟩ : ∃ kn, c.toNat = kn := ⟨_, rfl⟩
 rw [hkn] at hv ⊢;refine zQ 6 ?_;refine zP (fun h8 => ?_) fun h8 => ?_
 ·rw [if_pos (by omega)] at hv;rw [hv];refine zQ 7 ?_;obtain ⟨_, st, hev, rfl, hH⟩ := gWrong_ev s.at_ 4 hH;refine qv hev ?_;refine zQ 2 ?_;refine EvC.ret ⟨rx, _, _, _, rfl, leaveD_rw (rfl), ?_⟩;exact ⟨rfl, hH0.leaveRw1 hS2 hH⟩
 rw [if_neg (by omega)] at hv;refine zQ 5 ?_;refine EvO.rlen rfl (ev rfl) (hrest hH) rfl (by dsimp only [Fr.put, u1, u2] <;> rfl) ?_;refine qm ?_;refine EvO.addZ (z := ((1 + kn : Nat) : Int)) rfl (ev rfl) (ev rfl) (by (try simp only [List.length_reverse, List.length_cons, List.length_nil, List.length_append, List.length_map, List.length_set]); rw [wrap_i64 (by omega) (by omega)] <;> omega) (by dsimp only [Fr.put, u1, u2] <;> rfl) ?_;refine zQ 2 ?_;simp only [byteCells_len, List.length_cons]
 by_cases hs : rest.length < kn
 ·rw [if_pos hs] at hv;rw [hv];have hc : decide (((rest.length + 1 : Nat) : Int) < ((1 + kn : Nat) : Int)) = true := by rw [decide_eq_true_eq]; omega
  refine qD rfl (by rw [hc]) ?_;refine zQ 7 ?_;obtain ⟨_, st, hev, rfl, hH⟩ := gWrong_ev s.at_ 3 hH;refine qv hev ?_;refine zQ 2 ?_;refine EvC.ret ⟨rx, _, _, _, rfl, leaveD_rw (rfl), ?_⟩;exact ⟨rfl, hH0.leaveRw1 hS2 hH⟩
 rw [if_neg hs] at hv;have hc : decide (((rest.length + 1 : Nat) : Int) < ((1 + kn : Nat) : Int)) = false := by rw [decide_eq_false_iff_not]; omega
 refine qE rfl (by rw [hc]) ?_;refine zQ 1 ?_
 obtain ⟨l, hl⟩ : ∃ l, rest.take kn = l := ⟨_, rfl⟩
 have hll : l.length = kn := by rw [← hl, List.length_take]; omega
 rw [hl] at hv
 obtain ⟨y, hy⟩ : ∃ y, prtD (prtD x s.at_ b.length) 1 (1 + kn) = y := ⟨_, rfl⟩
 have hy2 : ∀ {st : St} {e : Ent} {H : List Ent}, Has N S2 st (e :: .lst x 1 (byteCells b) :: H) → V.Rows st 1 y (byteCells l) := fun h => by
  have h2 := (hrest h).prtR (l := 1) (r := 1 + kn) (by rw [byteCells_len, List.length_cons]; omega);rw [hy] at h2
  have e : ((byteCells (c :: rest)).take (1 + kn)).drop 1 = byteCells l := by
   rw [← hl, Nat.add_comm 1 kn]; unfold byteCells;rw [List.map_cons, List.take_succ_cons, List.drop_succ_cons, List.drop_zero, List.map_take]
  rwa [e] at h2
 refine zQ 9 ?_;refine EvO.addZ (z := ((1 + kn : Nat) : Int)) rfl (ev rfl) (ev rfl) (by (try simp only [List.length_reverse, List.length_cons, List.length_nil, List.length_append, List.length_map, List.length_set]); rw [wrap_i64 (by omega) (by omega)] <;> omega) (by dsimp only [Fr.put, u1, u2] <;> rfl) ?_;refine EvO.prt rfl (ev rfl) (hrest hH) rfl rfl (bounds_both (m := 1) (n := 1 + kn) (by rw [byteCells_len, List.length_cons]; omega)) ⟨by omega, by rw [byteCells_len, List.length_cons]; omega⟩ (by dsimp only [Fr.put, u1, u2] <;> rfl) ?_;rw [hy];refine EvO.rlen rfl (ev rfl) (hy2 hH) rfl (by dsimp only [Fr.put, u1, u2] <;> rfl) ?_;rw [byteCells_len];refine zQ 2 ?_
 have hlb : ∀ (i u : Nat), i ≤ 7 → u < 256 ^ i → u * 256 + 255 < 18446744073709551616 := fun i u hi hu => by
  have h1 : 256 ^ i ≤ 256 ^ 7 := Nat.pow_le_pow_right (by decide) hi;have h2 : (256 : Nat) ^ 7 = 72057594037927936 := by decide
  omega
 refine zQ 1 ?_;refine EvC.loop (fun mm fr st => ∃ (i u : Nat), fr.clean = ⟨60, [.ptr k 0 0, ixF_Oa fr 1, ixF_Oa fr 2, prtD x s.at_ b.length, .int .i64 (kn : Nat), .int .u64 (u : Nat), ixF_Oa fr 6, ixF_Oa fr 7, ixF_Oa fr 8, ixF_Oa fr 9, ixF_Oa fr 10, ixF_Oa fr 11, ixF_Oa fr 12, ixF_Oa fr 13, ixF_Oa fr 14, ixF_Oa fr 15, ixF_Oa fr 16, ixF_Oa fr 17, ixF_Oa fr 18, ixF_Oa fr 19, ixF_Oa fr 20, ixF_Oa fr 21, ixF_Oa fr 22, ixF_Oa fr 23, ixF_Oa fr 24, ixF_Oa fr 25, ixF_Oa fr 26, ixF_Oa fr 27, ixF_Oa fr 28, ixF_Oa fr 29, ixF_Oa fr 30, ixF_Oa fr 31, ixF_Oa fr 32, ixF_Oa fr 33, ixF_Oa fr 34, ixF_Oa fr 35, ixF_Oa fr 36, ixF_Oa fr 37, ixF_Oa fr 38, ixF_Oa fr 39, ixF_Oa fr 40, ixF_Oa fr 41, ixF_Oa fr 42, ixF_Oa fr 43, ixF_Oa fr 44, ixF_Oa fr 45, ixF_Oa fr 46, ixF_Oa fr 47, ixF_Oa fr 48, ixF_Oa fr 49, ixF_Oa fr 50, ixF_Oa fr 51, ixF_Oa fr 52, ixF_Oa fr 53, ixF_Oa fr 54, ixF_Oa fr 55, ixF_Oa fr 56, y, .int .i64 (l.length : Nat), .int .i64 (i : Nat)], []⟩ ∧ Has N S2 st (.box k (.mem 0 false (rdC x s)) :: .lst x 1 (byteCells b) :: H) ∧ (i + mm = l.length) ∧ (valB u (l.drop i) = valB 0 l) ∧ (u < 256 ^ i)) (l.length) ?_ ?_
 ·exact ⟨0, 0, rfl, hH, by omega, rfl, by decide⟩
 rintro mm fr st ⟨i, u, hfr, hH, hi, hu, hul⟩;rw [hfr];clear hfr;generalize ixF_Oa fr = ee;clear fr;refine zQ 4 ?_
 by_cases hlt : i < l.length
 ·have hc2 : decide (((i : Nat) : Int) < ((l.length : Nat) : Int)) = true := by rw [decide_eq_true_eq]; omega
  refine qq ?_;refine qD rfl (by rw [hc2]) ?_;refine zQ 3 ?_
  obtain ⟨q, hq⟩ : ∃ q, l[i]? = some q := ⟨l[i]'hlt, List.getElem?_eq_getElem _⟩
  have hr2 : (byteCells l)[i]? = some [.int .u8 (q.toNat : Nat)] := by unfold byteCells; rw [List.getElem?_map, hq]; rfl
  have hdr : l.drop i = q :: l.drop (i + 1) := by
   have := List.drop_eq_getElem_cons (l := l) (i := i) hlt;rw [this]; congr 1;rw [List.getElem?_eq_getElem hlt] at hq;exact Option.some.inj hq
  rw [hdr] at hu;have hql : q.toNat < 256 := q.toNat_lt;have hub := hlb i u (by omega) hul;refine zQ 2 ?_;refine EvO.ridx rfl (ev rfl) (ev rfl) (hy2 hH) rfl rfl hr2 (fun _ => (put_T rfl _)) (fun p61 hp61 => ?_);refine EvO.rload rfl (ev rfl) hp61 rfl (put_T rfl _) ?_;refine zQ 4 ?_;refine EvO.go (d := .int .u64 ((u * 256 : Nat) : Int)) (st1 := _) rfl rfl (by exact shl8_op u (by omega) _) (put_T rfl _) ?_;refine qm ?_;refine EvO.go (d := .int .u64 (q.toNat : Nat)) (st1 := _) rfl rfl (by exact cv64_op q _) (put_T rfl _) ?_;refine EvO.go (d := .int .u64 ((u * 256 + q.toNat : Nat) : Int)) (st1 := _) rfl rfl (by exact or8_op u q.toNat hql (by omega) _) (put_T rfl _) ?_;refine zQ 6 ?_;exact ⟨mm - 1, by omega, ⟨i + 1, u * 256 + q.toNat, rfl, hH, by omega, hu, by rw [Nat.pow_succ]; omega⟩⟩
 ·have hc2 : decide (((i : Nat) : Int) < ((l.length : Nat) : Int)) = false := by rw [decide_eq_false_iff_not]; omega
  refine qq ?_;refine qE rfl (by rw [hc2]) ?_;refine zQ 1 ?_;have hil : i = l.length := by omega
  rw [hil, List.drop_length] at hu;have hu : u = valB 0 l := hu;rw [← hu] at hv
  have hu64 : u < 18446744073709551616 := by
   have h1 : 256 ^ i ≤ 256 ^ 8 := Nat.pow_le_pow_right (by decide) (by omega);have h2 : (256 : Nat) ^ 8 = 18446744073709551616 := by decide
   omega
  have hwr : ∀ st : St, Has N S2 st (.box k (.mem 0 false (rdC x s)) :: .lst x 1 (byteCells b) :: H) → ∃ d st', Ev pv 97 [.ptr k 0 0, .int .i64 (s.at_ : Nat), .int .i64 4] st d st' ∧ d = .int .i64 0 ∧ Has N S2 st' (.box k (.mem 0 false (rdC x ⟨s.at_, 4⟩)) :: .lst x 1 (byteCells b) :: H) := fun st hH => gWrong_ev s.at_ 4 hH
  have hb63 : (((u / 9223372036854775808 : Nat) : Int) == 1) = decide (9223372036854775808 ≤ u) := by
   by_cases h : 9223372036854775808 ≤ u
   ·have : u / 9223372036854775808 = 1 := by omega
    rw [this, decide_eq_true h]; rfl
   ·have : u / 9223372036854775808 = 0 := by omega
    rw [this, decide_eq_false h]; rfl
  by_cases hK0 : kn = 0
  ·have hg2 : decide (((kn : Nat) : Int) > 0) = false := by rw [decide_eq_false_iff_not]; omega
   have hl0 : l = [] := List.length_eq_zero_iff.1 (by omega);have hu0 : u = 0 := by rw [hu, hl0]; rfl
   have hg8 : false = false := rfl;rw [if_neg (by omega)] at hv;rw [hv];subst hu0;refine zQ 13 ?_;refine EvO.go (d := .int .u64 0) (st1 := _) rfl rfl (by exact shr63_op 0 _) (put_T rfl _) ?_;refine zQ 12 ?_;refine EvO.addZ (z := ((1 + kn : Nat) : Int)) rfl (ev rfl) (ev rfl) (by (try simp only [List.length_reverse, List.length_cons, List.length_nil, List.length_append, List.length_map, List.length_set]); rw [wrap_i64 (by omega) (by omega)] <;> omega) (put_T rfl _) ?_;refine EvO.addZ (z := ((s.at_ + 1 + kn : Nat) : Int)) rfl (ev rfl) (ev rfl) (by (try simp only [List.length_reverse, List.length_cons, List.length_nil, List.length_append, List.length_map, List.length_set]); rw [wrap_i64 (by omega) (by omega)] <;> omega) (put_T rfl _) ?_;refine zQ 2 ?_;refine qT hH at0 fun st hH => ?_;dsimp only [u2, u1, u3, u4, setMany, u5, u6, D.cells, Nat.reduceAdd, rdC] at hH;refine zQ 4 ?_;refine EvO.go (d := .int .i64 (0 : Nat)) (st1 := _) rfl rfl (by exact cvu_op 0 (by decide) _) (put_T rfl _) ?_;refine zQ 2 ?_;have he0 : s.e = 0 := by simpa using he
   refine EvC.ret ⟨rx, _, _, _, rfl, leaveD_rw (rfl), ?_⟩;rw [he0] at hH;exact ⟨rfl, hH0.leaveRw1 hS2 hH⟩
  ·have hg2 : decide (((kn : Nat) : Int) > 0) = true := by rw [decide_eq_true_eq]; omega
   obtain ⟨z, rest2, rfl⟩ : ∃ z r, rest = z :: r := by
    cases rest with
    | nil => simp only [List.length_nil] at hs; omega
    | cons z r => exact ⟨z, r, rfl⟩
   have hr3 : (byteCells (c :: z :: rest2))[1]? = some [.int .u8 (z.toNat : Nat)] := rfl
   have hz : (((z.toNat : Nat) : Int) == 0) = decide (z = 0) := by
    by_cases h : z = 0
    ·subst h; rfl
    ·have : z.toNat ≠ 0 := fun e => h (by rw [← UInt8.toNat_inj]; exact e);rw [decide_eq_false h, beq_eq_false_iff_ne]; omega
   by_cases hz0 : z = 0
   ·have hg8 : (((z.toNat : Nat) : Int) == 0) = true := by rw [hz, decide_eq_true hz0]
    rw [if_pos (.inl ⟨by omega, by rw [hz0]; rfl⟩)] at hv;rw [hv];refine zQ 7 ?_;refine EvO.ridx (i := 1) (wantD_is rfl rfl rfl hg2) (ev rfl) (ev rfl) (hrest hH) rfl rfl hr3 (fun _ => (put_T rfl _)) (fun p73 hp73 => ?_);refine EvO.rload (wantD_is rfl rfl rfl hg2) (ev rfl) hp73 rfl (put_T rfl _) ?_;refine zQ 16 ?_;obtain ⟨_, st, hev, rfl, hH⟩ := hwr _ hH;refine qv hev ?_;refine zQ 2 ?_;refine EvC.ret ⟨rx, _, _, _, rfl, leaveD_rw (rfl), ?_⟩;exact ⟨rfl, hH0.leaveRw1 hS2 hH⟩
   ·have hg8 : (((z.toNat : Nat) : Int) == 0) = false := by rw [hz, decide_eq_false hz0]
    by_cases hbig : 9223372036854775808 ≤ u
    ·rw [if_pos (.inr hbig)] at hv;rw [hv];rw [decide_eq_true hbig] at hb63;refine zQ 7 ?_;refine EvO.ridx (i := 1) (wantD_is rfl rfl rfl hg2) (ev rfl) (ev rfl) (hrest hH) rfl rfl hr3 (fun _ => (put_T rfl _)) (fun p73 hp73 => ?_);refine EvO.rload (wantD_is rfl rfl rfl hg2) (ev rfl) hp73 rfl (put_T rfl _) ?_;refine zQ 4 ?_;refine EvO.go (d := .int .u64 ((u / 9223372036854775808 : Nat) : Int)) (st1 := _) (wantD_is rfl rfl rfl hg8) rfl (by exact shr63_op u _) (put_T rfl _) ?_;refine zQ 3 ?_;refine EvC.cond (v := true) (by dsimp only [Fr.ev, Fr.get, nth, V.look]; exact congrArg D.bool hb63) (fun _ => ?_) (fun h => by cases h);refine zQ 7 ?_;obtain ⟨_, st, hev, rfl, hH⟩ := hwr _ hH;refine qv hev ?_;refine zQ 2 ?_;refine EvC.ret ⟨rx, _, _, _, rfl, leaveD_rw (rfl), ?_⟩;exact ⟨rfl, hH0.leaveRw1 hS2 hH⟩
    ·have hzz : ¬ ((0 < kn ∧ (z :: rest2).head? = some 0) ∨ 9223372036854775808 ≤ u) := by
      rintro (⟨_, h⟩ | h)
      ·exact hz0 (Option.some.inj h)
      ·exact hbig h
     rw [if_neg hzz] at hv;rw [hv];rw [decide_eq_false hbig] at hb63;refine zQ 7 ?_;refine EvO.ridx (i := 1) (wantD_is rfl rfl rfl hg2) (ev rfl) (ev rfl) (hrest hH) rfl rfl hr3 (fun _ => (put_T rfl _)) (fun p73 hp73 => ?_);refine EvO.rload (wantD_is rfl rfl rfl hg2) (ev rfl) hp73 rfl (put_T rfl _) ?_;refine zQ 4 ?_;refine EvO.go (d := .int .u64 ((u / 9223372036854775808 : Nat) : Int)) (st1 := _) (wantD_is rfl rfl rfl hg8) rfl (by exact shr63_op u _) (put_T rfl _) ?_;refine zQ 3 ?_;refine EvC.cond (v := false) (by dsimp only [Fr.ev, Fr.get, nth, V.look]; exact congrArg D.bool hb63) (fun h => by cases h) (fun _ => ?_);refine zQ 8 ?_;refine EvO.addZ (z := ((1 + kn : Nat) : Int)) rfl (ev rfl) (ev rfl) (by (try simp only [List.length_reverse, List.length_cons, List.length_nil, List.length_append, List.length_map, List.length_set]); rw [wrap_i64 (by omega) (by omega)] <;> omega) (put_T rfl _) ?_;refine EvO.addZ (z := ((s.at_ + 1 + kn : Nat) : Int)) rfl (ev rfl) (ev rfl) (by (try simp only [List.length_reverse, List.length_cons, List.length_nil, List.length_append, List.length_map, List.length_set]); rw [wrap_i64 (by omega) (by omega)] <;> omega) (put_T rfl _) ?_;refine zQ 2 ?_;refine qT hH at0 fun st hH => ?_;dsimp only [u2, u1, u3, u4, setMany, u5, u6, D.cells, Nat.reduceAdd, rdC] at hH;refine zQ 4 ?_;refine EvO.go (d := .int .i64 (u : Nat)) (st1 := _) rfl rfl (by exact cvu_op u (by omega) _) (put_T rfl _) ?_;refine zQ 2 ?_;have he0 : s.e = 0 := by simpa using he
     refine EvC.ret ⟨rx, _, _, _, rfl, leaveD_rw (rfl), ?_⟩;rw [he0] at hH;exact ⟨rfl, hH0.leaveRw1 hS2 hH⟩
end Go.Proofs.YtecjacicdpejaaaGreat
namespace Go.Proofs.YtecjacicdpejaaaGreat
open Go.V Go
end Go.Proofs.YtecjacicdpejaaaGreat
namespace Go.V
abbrev Rg := Int × Int
def memR (l : List Rg) (r : Int) : Prop := ∃ x, x ∈ l ∧ x.1 ≤ r ∧ r ≤ x.2
def canon (l : List Rg) : Prop := (∀ x ∈ l, x.1 ≤ x.2) ∧ l.Pairwise fun x y => x.2 + 1 < y.1
def isRune (r : Int) : Prop := 0 ≤ r ∧ r ≤ 1114111 ∧ ¬ (55296 ≤ r ∧ r ≤ 57343)
end Go.V
namespace Go.V
end Go.V
namespace Go.Proofs.YtecjacicdpejaaaGreat
open Go.V Go
def rangeC (x : Rg) : List D := [.int .i32 x.1, .int .i32 x.2]
end Go.Proofs.YtecjacicdpejaaaGreat
namespace Go.Proofs.YtecjacicdpejaaaGreat
open Go.V Go
end Go.Proofs.YtecjacicdpejaaaGreat
namespace Go.Proofs.YtecjacicdpejaaaGreat
open Go.V Go
end Go.Proofs.YtecjacicdpejaaaGreat
namespace Go.Proofs.YtecjacicdpejaaaGreat
open Go.V Go
def MakeIs (l a : List Rg) : Prop := canon a ∧ ∀ r, memR a r ↔ isRune r ∧ memR l r
noncomputable def rightS (l : List Rg) : Bool := @decide (MakeIs l l) (Classical.propDecidable _)
end Go.Proofs.YtecjacicdpejaaaGreat
namespace Go.Proofs.YtecjacicdpejaaaGreat
open Go.V Go
structure PIns where
 op : Int
 x : Int
 y : Int
 rd : D
 rs : List Rg
def insC (i : PIns) : List D := [.int .i64 i.op, .int .i64 i.x, .int .i64 i.y, i.rd]
def PIns.ok (i : PIns) : Prop := SlD i.rd 2 (i.rs.map rangeC) ∧ i.rs.length ≤ 1048576
def intC (n : Int) : List D := [.int .i64 n]
structure Pg where
 cd : D
 code : List PIns
 sd : D
 starts : List Int
structure Pg.ok (p : Pg) : Prop where
 c : SlD p.cd 4 (p.code.map insC)
 s : SlD p.sd 1 (p.starts.map intC)
 i : ∀ x ∈ p.code, x.ok
 cl : p.code.length ≤ 1048576
 sl : p.starts.length ≤ 1048576
def Pg.cs (p : Pg) : List D := [p.cd, p.sd]
def Pg.d (p : Pg) : D := .agg p.cs
def inS (v n : Int) : Bool := decide (v ≥ 0) && decide (v < n)
noncomputable def shapedS (n ns pc : Nat) (i : PIns) : Bool :=
 if i.op = 1 then i.y == 0 && (decide (((pc + 1 : Nat) : Int) < n) && i.x == 0 && rightS i.rs)
 else i.rs.isEmpty &&
  (if i.op = 2 then inS i.x n && inS i.y n
  else i.y == 0 &&
   (if i.op = 3 then inS i.x n
   else if i.op = 4 then decide (((pc + 1 : Nat) : Int) < n) && inS i.x 10
   else if i.op = 5 ∨ i.op = 6 then decide (((pc + 1 : Nat) : Int) < n) && i.x == 0
   else if i.op = 7 then inS i.x ns
   else false))
end Go.Proofs.YtecjacicdpejaaaGreat
namespace Go.Proofs.YtecjacicdpejaaaGreat
open Go.V Go
theorem bytesV_rows (b : List UInt8) (st : St) : V.Rows st 1 (bytesV b) (byteCells b) := (SlD.frozen (byteCells_one b) (byteCells_plain b)).rows st
theorem fl_le {α : Type} {f : α → List UInt8} {n : Nat} : ∀ {l : List α}, (∀ x ∈ l, (f x).length ≤ n) → ((l.map f).flatten).length ≤ n * l.length
 | [], _ => by simp
 | x :: l, h => by
  have ih := fl_le (l := l) fun y hy => h y (List.mem_cons_of_mem _ hy);have := h x (List.mem_cons_self ..);simp only [List.map_cons, List.flatten_cons, List.length_append, List.length_cons, Nat.mul_add, Nat.mul_one];omega
theorem fl_snoc {α : Type} {f : α → List UInt8} {l : List α} {i : Nat} {x : α} (h : l[i]? = some x) : (((l.take (i + 1)).map f).flatten) = ((l.take i).map f).flatten ++ f x := by
 rw [List.take_add_one, h, Option.toList_some, List.map_append, List.flatten_append]; simp
structure PIns.fit (i : PIns) : Prop where
 op : i.op < 9223372036854775808
 x : i.x < 9223372036854775808
 y : i.y < 9223372036854775808
 r : ∀ g ∈ i.rs, -2147483648 ≤ g.1 ∧ g.1 ≤ 2147483647 ∧ -2147483648 ≤ g.2 ∧ g.2 ≤ 2147483647
end Go.Proofs.YtecjacicdpejaaaGreat
namespace Go.V
variable {N : Nat} {S st : St} {H : List Ent}
theorem Has.rot (A B : List Ent) (h : Has N S st (A ++ (B ++ H))) : Has N S st (B ++ (A ++ H)) := by
  refine h.sub (fun i => if i < B.length then i + A.length else if i < B.length + A.length then i - B.length else i) (fun a b e => ?_) fun i e hi => ?_
  · have e' : (if a < B.length then a + A.length else if a < B.length + A.length then a - B.length else a) = (if b < B.length then b + A.length else if b < B.length + A.length then b - B.length else b) := e
    repeat' split at e'
    all_goals omega
  · show (A ++ (B ++ H))[if i < B.length then i + A.length else if i < B.length + A.length then i - B.length else i]? = some e
    by_cases h1 : i < B.length
    · rw [if_pos h1, List.getElem?_append_right (by omega), Nat.add_sub_cancel, List.getElem?_append_left h1]
      rwa [List.getElem?_append_left h1] at hi
    · rw [List.getElem?_append_right (by omega)] at hi
      by_cases h2 : i < B.length + A.length
      · rw [if_neg h1, if_pos h2, List.getElem?_append_left (by omega)]
        rwa [List.getElem?_append_left (by omega)] at hi
      · rw [if_neg h1, if_neg h2, List.getElem?_append_right (by omega), List.getElem?_append_right (by omega)]
        rw [List.getElem?_append_right (by omega)] at hi
        rw [← hi]; congr 1; omega
theorem Has.repl {j : Nat} {e : Ent} (h : Has N S st (e :: H)) (hj : j < H.length) : Has N S st (H.set j e) :=
  Has.back (h.erase (j + 1)) hj
theorem Has.keyLt {j k : Nat} {e : Ent} (h : Has N S st H) (hj : H[j]? = some e) (hk : e.K k) : k + 1 ≤ st.bs.length := ((h.ok j e hj).2 k hk).2
theorem Has.clear {P : Pv} {j : Nat} {x : D} {s : Nat} {es : List (List D)} {t e : TypeId} {z : List D} (h : Has N S st H) (hj : H[j]? = some (.lst x s es)) (ht : P.und t = some (.slice e)) (hz : zeroC P e = some z) (hzl : z.length = s) (hr : refs z = 0) :
    ∃ st', clearD P [t] x st = some (.tup [], st') ∧ Has N S st' (H.set j (.lst x s (List.replicate es.length z))) := by
  have hk0 := (h.ok j _ hj).2
  have hown := h.own hj
  have hjl : j < H.length := by
    rcases Nat.lt_or_ge j H.length with h' | h'
    · exact h'
    · rw [List.getElem?_eq_none h'] at hj; cases hj
  cases hown with
  | nul =>
    refine ⟨st, by simp only [clearD, ht], ?_⟩
    have : H.set j (.lst .nul s (List.replicate ([] : List (List D)).length z)) = H := by
      refine List.ext_getElem? fun i => ?_
      by_cases hi : i = j
      · subst hi; rw [List.getElem?_set_self hjl, hj]; rfl
      · rw [List.getElem?_set_ne (fun e => hi e.symm)]
    rw [this]; exact h
  | win k ver off es c hm hle hc he =>
    have hk := hk0 k (by simp only [Ent.lst, D.ref])
    have hrf : ∀ n, refs (Go.V.repl n z) = 0 := by
      intro n
      unfold Go.V.repl
      induction n with
      | zero => rfl
      | succ n ih =>
        rw [List.replicate_succ, List.flatten_cons]
        have happ : ∀ (a b : List D), refs a = 0 → refs b = 0 → refs (a ++ b) = 0 := by
          intro a
          induction a with
          | nil => intro b _ hb; exact hb
          | cons d a iha =>
            intro b ha hb
            simp only [refs, List.cons_append] at ha ⊢
            have := iha b (by omega) hb
            omega
        exact happ _ _ hr ih
    have hlr : (Go.V.repl es.length z).length = es.length * s := by
      unfold Go.V.repl
      rw [flat_len (s := s) (fun e he => by rw [(List.mem_replicate.1 he).2]; exact hzl), List.length_replicate]
    have hw : st.wr k ver off (Go.V.repl es.length z) = some ⟨st.bs.set k (.mem ver true (c.take off ++ Go.V.repl es.length z ++ c.drop (off + (Go.V.repl es.length z).length))), st.flr, st.ro⟩ := wr_own hm (by omega) (canW_has h hk.1 (.inr (hrf _)))
    refine ⟨_, by simp only [clearD, ht, hz, Option.bind_some]; rw [if_pos hzl, hw]; rfl, ?_⟩
    refine h.upd hj (fun n hn hne => ?_) (by simp) rfl rfl ?_ (fun n hn => .inl hn) fun n hn => ?_
    · simp only; rw [List.getElem?_set_ne (fun e => hne (by simp only [Ent.lst, D.ref]; omega))]
    · have hlen' : ∀ e' ∈ List.replicate es.length z, e'.length = s := fun e' he' => by rw [(List.mem_replicate.1 he').2]; exact hzl
      have := OwnP.win (st := ⟨st.bs.set k (.mem ver true (c.take off ++ Go.V.repl es.length z ++ c.drop (off + (Go.V.repl es.length z).length))), st.flr, st.ro⟩) (s := s) k ver off (List.replicate es.length z) (c.take off ++ Go.V.repl es.length z ++ c.drop (off + (Go.V.repl es.length z).length))
        (by simp only; rw [List.getElem?_set_self hk.2]) (by rw [List.length_replicate]; simp; omega) ?_ hlen'
      · rw [List.length_replicate] at this; exact this
      · rw [List.length_replicate, List.append_assoc, List.drop_append_of_le_length (by simp; omega), List.drop_take, Nat.sub_self, List.take_zero, List.nil_append, ← hlr, List.take_left']
        · rfl
        · rfl
    · simp only [Ent.lst, D.ref] at hn
      have : n = k := by omega
      subst this
      simpa using hk.2
variable {P : Pv} {ops : Array Oper} {rest : List Oper} {fr fr' : Fr} {Q : Fr → St → Prop} {ty : TypeId} {pp : String} {a : Array Edge} {g : Option (Nat × Bool)} {dst : Nat}
end Go.V
namespace Go.Proofs.YtecjacicdpejaaaGreat
open Go.V Go
end Go.Proofs.YtecjacicdpejaaaGreat
namespace Go.Proofs.YtecjacicdpejaaaGreat
open Go.V Go
def nextS (pc : Nat) (i : PIns) : List Int :=
 if i.op = 2 then [i.x, i.y] else if i.op = 3 then [i.x] else if i.op = 7 then [] else [((pc + 1 : Nat) : Int)]
def closedS (code : List PIns) : Prop := ∀ pc i, code[pc]? = some i → ∀ v ∈ nextS pc i, 0 ≤ v ∧ v < code.length
theorem shaped_next {n ns pc : Nat} {i : PIns} (h : shapedS n ns pc i = true) : ∀ v ∈ nextS pc i, 0 ≤ v ∧ v < n := by
 intro v hv
 have inS_iff : ∀ a b : Int, inS a b = true → 0 ≤ a ∧ a < b := fun a b h => by
  unfold inS at h; simp only [Bool.and_eq_true, decide_eq_true_eq] at h; exact ⟨h.1, h.2⟩
 unfold shapedS at h;unfold nextS at hv
 split at h
 ·rename_i h1;rw [if_neg (by omega), if_neg (by omega), if_neg (by omega)] at hv;simp only [Bool.and_eq_true, decide_eq_true_eq] at h;simp only [List.mem_cons, List.not_mem_nil, or_false] at hv;subst hv; omega
 ·simp only [Bool.and_eq_true] at h;obtain ⟨_, h⟩ := h
  split at h
  ·rename_i h2;rw [if_pos h2] at hv;simp only [Bool.and_eq_true] at h;simp only [List.mem_cons, List.not_mem_nil, or_false] at hv
   rcases hv with rfl | rfl
   ·exact inS_iff _ _ h.1
   ·exact inS_iff _ _ h.2
  ·rename_i h2;rw [if_neg h2] at hv;simp only [Bool.and_eq_true] at h;obtain ⟨_, h⟩ := h
   split at h
   ·rename_i h3;rw [if_pos h3] at hv;simp only [List.mem_cons, List.not_mem_nil, or_false] at hv;subst hv; exact inS_iff _ _ h
   ·rename_i h3;rw [if_neg h3] at hv
    split at h
    ·rename_i h4;rw [if_neg (by omega)] at hv;simp only [Bool.and_eq_true, decide_eq_true_eq] at h;simp only [List.mem_cons, List.not_mem_nil, or_false] at hv;subst hv; omega
    ·split at h
     ·rename_i h5;rw [if_neg (by omega)] at hv;simp only [Bool.and_eq_true, decide_eq_true_eq] at h;simp only [List.mem_cons, List.not_mem_nil, or_false] at hv;subst hv; omega
     ·split at h
      ·rename_i h7;rw [if_pos h7] at hv; cases hv
      ·cases h
def dfs (code : List PIns) : Nat → List Bool → List Int → List Bool
 | 0, seen, _ => seen
 | _ + 1, seen, [] => seen
 | f + 1, seen, v :: stk => match seen[v.toNat]? with
  | some false => match code[v.toNat]? with
   | some i => dfs code f (seen.set v.toNat true) ((nextS v.toNat i).reverse ++ stk)
   | none => seen
  | _ => dfs code f seen stk
def reachS (code : List PIns) (start : Int) : List Bool := dfs code (3 * code.length + 1) (List.replicate code.length false) [start]
theorem count_set {seen : List Bool} {k : Nat} (h : seen[k]? = some false) : (seen.set k true).count false + 1 = seen.count false := by
 induction seen generalizing k with
 | nil => simp at h
 | cons b l ih =>
  cases k with
  | zero => simp at h; subst h; simp
  | succ k =>
   have := ih (k := k) (by simpa using h);simp only [List.set_cons_succ, List.count_cons];omega
end Go.Proofs.YtecjacicdpejaaaGreat
namespace Go.Proofs.YtecjacicdpejaaaGreat
open Go.V Go
end Go.Proofs.YtecjacicdpejaaaGreat
namespace Go.Proofs.YtecjacicdpejaaaGreat
open Go.V Go
def ownMatch (p : Pg) (r : Nat) (s : Int) (n : Nat) : Prop := ∀ pc i, pc < n → (reachS p.code s)[pc]? = some true → p.code[pc]? = some i → i.op = 7 → i.x = (r : Int)
structure RightQ (p : Pg) : Prop where
 cl : p.code.length ≤ 400
 sl : p.starts.length ≤ 8
 sh : ∀ pc i, p.code[pc]? = some i → shapedS p.code.length p.starts.length pc i = true
 st : ∀ v ∈ p.starts, 0 ≤ v ∧ v < (p.code.length : Int)
 fo : ∀ r s, p.starts[r]? = some s → ownMatch p r s p.code.length
theorem closed_of {p : Pg} (h : ∀ pc i, p.code[pc]? = some i → shapedS p.code.length p.starts.length pc i = true) : closedS p.code :=
 fun pc i hi => shaped_next (h pc i hi)
theorem RightQ.closed {p : Pg} (h : RightQ p) : closedS p.code := closed_of h.sh
theorem inS_iff {a b : Int} : inS a b = true ↔ 0 ≤ a ∧ a < b := by
 unfold inS; simp only [Bool.and_eq_true, decide_eq_true_eq, ge_iff_le]
end Go.Proofs.YtecjacicdpejaaaGreat
