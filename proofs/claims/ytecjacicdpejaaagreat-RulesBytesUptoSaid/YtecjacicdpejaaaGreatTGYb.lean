/-
 Small numbers in the order in which they came: a set of one's own.
-/
import Derived.Test.YtecjacicdpejaaaGreatTGHr
import Derived.Test.YtecjacicdpejaaaGreatTGUa
import Derived.Test.YtecjacicdpejaaaGreatTM2
set_option maxRecDepth 100000
set_option maxHeartbeats 4000000
set_option linter.unusedSimpArgs false
set_option linter.unusedVariables false
set_option linter.unusedSectionVars false
namespace Go.Proofs.YtecjacicdpejaaaGreat
open Go.V Go
def numC (n : Nat) : List D := [.int .i64 (n : Nat)]
def itC (n : Nat) : List D := [.int .i64 (n : Nat), .bool true]
structure SetOk (P Q : List Nat) (seen : List Bool) : Prop where
 len : P.length = seen.length
 mem : ∀ (i p : Nat), P[i]? = some p → seen[i]? = some (decide (Q[p]? = some i))
 cnt : Q.length = seen.count true
 small : seen.length ≤ 4096
theorem SetOk.get {P Q : List Nat} {seen : List Bool} (h : SetOk P Q seen) {i : Nat} {b : Bool} (hi : seen[i]? = some b) : ∃ p, P[i]? = some p ∧ b = decide (Q[p]? = some i) := by
 have hl := lt_get hi;have hl2 := h.len;refine ⟨P[i]'(by omega), List.getElem?_eq_getElem _, ?_⟩;have := h.mem i _ (List.getElem?_eq_getElem (by omega));rw [hi] at this; exact Option.some.inj this
theorem SetOk.add {P Q : List Nat} {seen : List Bool} (h : SetOk P Q seen) {i : Nat} (hi : seen[i]? = some false) : SetOk (P.set i Q.length) (Q ++ [i]) (seen.set i true) := by
 have hl := lt_get hi;have hl2 := h.len;refine ⟨by simp [hl2], fun j p hj => ?_, ?_, by rw [List.length_set]; exact h.small⟩
 ·by_cases hij : j = i
  ·subst hij;rw [List.getElem?_set_self (by omega)] at hj ⊢;cases hj;simp
  ·rw [List.getElem?_set_ne (fun e => hij e.symm)] at hj ⊢;rw [h.mem j p hj]
   congr 2
   rcases Nat.lt_trichotomy p Q.length with hp | hp | hp
   ·rw [List.getElem?_append_left hp]
   ·subst hp;have hne : ¬ i = j := fun e => hij e.symm;simp [hne]
   ·rw [List.getElem?_eq_none (by omega), List.getElem?_eq_none (by simp; omega)]
 ·have h1 := List.length_eq_countP_add_countP (fun b => b == true) (l := seen);have h2 := List.length_eq_countP_add_countP (fun b => b == true) (l := seen.set i true);have h3 := count_set hi
  have e1 : ∀ l : List Bool, l.countP (fun a => decide (¬ (a == true) = true)) = l.count false := by
   intro l; unfold List.count; congr 1; funext b; cases b <;> rfl
  have e2 : ∀ l : List Bool, l.countP (fun a => a == true) = l.count true := fun l => rfl;rw [e1, e2] at h1 h2;rw [List.length_append, h.cnt];simp only [List.length_set, List.length_cons, List.length_nil] at h2 ⊢;omega
theorem SetOk.clear {P Q : List Nat} {seen : List Bool} (h : SetOk P Q seen) : SetOk P [] (List.replicate seen.length false) := by
 refine ⟨by rw [List.length_replicate]; exact h.len, fun i p hi => ?_, ?_, by rw [List.length_replicate]; exact h.small⟩
 ·have := lt_get hi;have := h.len;rw [List.getElem?_replicate, if_pos (by omega)]; simp
 ·rw [List.count_replicate]; simp
def copyI (i : PIns) : PIns := ⟨i.op, i.x, i.y, .sl ((i.rs.map rangeC).map (elD 2)), i.rs⟩
theorem copy_get {code : List PIns} {pc : Nat} {i : PIns} (h : (code.map copyI)[pc]? = some i) : ∃ q, code[pc]? = some q ∧ i = copyI q := by
 rw [List.getElem?_map] at h;obtain ⟨q, hq, rfl⟩ := Option.map_eq_some_iff.1 h;exact ⟨q, hq, rfl⟩
theorem get_copy {code : List PIns} {pc : Nat} {i : PIns} (h : code[pc]? = some i) : (code.map copyI)[pc]? = some (copyI i) := by
 rw [List.getElem?_map, h]; rfl
theorem dfs_copy (code : List PIns) : ∀ (f : Nat) (seen : List Bool) (stk : List Int), dfs (code.map copyI) f seen stk = dfs code f seen stk
 | 0, _, _ => rfl
 | _ + 1, _, [] => rfl
 | f + 1, seen, v :: stk => by
  have ih := dfs_copy code f;unfold dfs;rw [List.getElem?_map]
  cases h1 : seen[v.toNat]? with
  | none => exact ih _ _
  | some b =>
   cases b with
   | true => exact ih _ _
   | false =>
    cases h2 : code[v.toNat]? with
    | none => rfl
    | some i => exact ih _ _
theorem reach_copy (code : List PIns) (s : Int) : reachS (code.map copyI) s = reachS code s := by
 unfold reachS; rw [List.length_map, dfs_copy]
theorem right_copy {p q : Pg} (h1 : q.code = p.code.map copyI) (h2 : q.starts = p.starts) : RightQ q ↔ RightQ p := by
 have hl : q.code.length = p.code.length := by rw [h1]; simp
 constructor
 ·intro h;refine ⟨by rw [← hl]; exact h.cl, by rw [← h2]; exact h.sl, fun pc i hi => ?_, fun v hv => ?_, fun r s hs pc i hpc hre hi hop => ?_⟩
  ·have := h.sh pc (copyI i) (by rw [h1]; exact get_copy hi);rw [hl, h2] at this; exact this
  ·have := h.st v (by rw [h2]; exact hv);rw [hl] at this; exact this
  ·exact h.fo r s (by rw [h2]; exact hs) pc (copyI i) (by rw [hl]; exact hpc) (by rw [h1, reach_copy]; exact hre) (by rw [h1]; exact get_copy hi) hop
 ·intro h;refine ⟨by rw [hl]; exact h.cl, by rw [h2]; exact h.sl, fun pc i hi => ?_, fun v hv => ?_, fun r s hs pc i hpc hre hi hop => ?_⟩
  ·rw [h1] at hi;obtain ⟨j, hj, rfl⟩ := copy_get hi;rw [hl, h2]; exact h.sh pc j hj
  ·rw [hl]; exact h.st v (by rw [← h2]; exact hv)
  ·rw [h1] at hi hre;rw [reach_copy] at hre;obtain ⟨j, hj, rfl⟩ := copy_get hi;exact h.fo r s (by rw [← h2]; exact hs) pc j (by rw [← hl]; exact hpc) hre hj hop
abbrev Cps := Nat → Int
structure Thr where
 pc : Nat
 c : Cps
def thrC (t : Thr) : List D := [.int .i64 (t.pc : Nat), .int .i64 (t.c 0), .int .i64 (t.c 1), .int .i64 (t.c 2), .int .i64 (t.c 3), .int .i64 (t.c 4), .int .i64 (t.c 5), .int .i64 (t.c 6), .int .i64 (t.c 7), .int .i64 (t.c 8), .int .i64 (t.c 9)]
def lstC (dn : Bool) (f : Cps) (d : D) : List D := [.bool dn, .int .i64 (f 0), .int .i64 (f 1), .int .i64 (f 2), .int .i64 (f 3), .int .i64 (f 4), .int .i64 (f 5), .int .i64 (f 6), .int .i64 (f 7), .int .i64 (f 8), .int .i64 (f 9), d]
structure Wk where
 seen : List Bool
 dn : Bool
 best : Cps
 rdy : List Thr
def Good (code : List PIns) (w w' : Wk) : Prop :=
 w'.seen.length = w.seen.length ∧ w'.seen.count false ≤ w.seen.count false ∧ w'.rdy.length + w'.seen.count false ≤ w.rdy.length + w.seen.count false ∧ ∀ t ∈ w'.rdy, t ∈ w.rdy ∨ ∃ i, code[t.pc]? = some i ∧ i.op = 1
theorem Good.refl {code : List PIns} {w : Wk} : Good code w w := ⟨rfl, Nat.le_refl _, Nat.le_refl _, fun t h => .inl h⟩
theorem Good.trans {code : List PIns} {a b c : Wk} (h : Good code a b) (k : Good code b c) : Good code a c :=
 ⟨k.1.trans h.1, Nat.le_trans k.2.1 h.2.1, Nat.le_trans k.2.2.1 h.2.2.1, fun t ht => by
  rcases k.2.2.2 t ht with q | q
  ·exact h.2.2.2 t q
  ·exact .inr q⟩
theorem Good.step {code : List PIns} {w w' : Wk} {j : Nat} (hj : w.seen[j]? = some false) (k : Good code ⟨w.seen.set j true, w.dn, w.best, w.rdy⟩ w') : Good code w w' := by
 have hc := count_set hj;refine Good.trans (b := ⟨w.seen.set j true, w.dn, w.best, w.rdy⟩) ⟨?_, ?_, ?_, fun t h => .inl h⟩ k
 ·simp
 ·show (w.seen.set j true).count false ≤ _; omega
 ·show w.rdy.length + (w.seen.set j true).count false ≤ _; omega
structure VL where
 dn : Bool
 best : Cps
 td : D
 ths : List Thr
def vlC (l : VL) : List D := lstC l.dn l.best l.td
def vlE (l : VL) : Ent := .lst l.td 11 (l.ths.map thrC)
theorem vl_at (A : List Ent) {n : Nat} (hn : A.length = n) {L : List VL} {i : Nat} {l : VL} (h : L[i]? = some l) {H : List Ent} : (A ++ (L.map vlE ++ H))[n + i]? = some (vlE l) := by
 have hi := lt_get h;rw [List.getElem?_append_right (by omega), List.getElem?_append_left (by simp; omega), hn, Nat.add_sub_cancel_left, List.getElem?_map, h]; rfl
theorem lstRef {N : Nat} {S st : St} {H : List Ent} {j : Nat} {x : D} {s : Nat} {es : List (List D)} (h : Has N S st H) (hj : H[j]? = some (.lst x s es)) : x.ref ≤ st.bs.length := by
 rcases Nat.eq_zero_or_pos x.ref with h0 | h0
 ·omega
 ·have := h.keyLt hj (k := x.ref - 1) (by show x.ref = x.ref - 1 + 1; omega);omega
def MH (A : List Ent) (N : Nat) (S st : St) (ks kv : Nat) (p : Pg) (pl : Nat) (ld : D) (L : List VL) (H : List Ent) : Prop :=
 ∃ pd qd P Q sn, Has N S st (A ++ (.box kv (.mem 0 false [p.cd, p.sd, .int .i64 (pl : Nat), ld, .ptr ks 0 0]) :: .box ks (.mem 0 false [pd, qd]) :: .lst pd 1 (P.map numC) :: .lst qd 2 (Q.map itC) :: .lst ld 12 (L.map vlC) :: (L.map vlE ++ H))) ∧ SetOk P Q sn ∧ sn.length = p.code.length
theorem MH.push (A B : List Ent) {N : Nat} {S st : St} {ks kv : Nat} {p : Pg} {pl : Nat} {ld : D} {L : List VL} {H : List Ent} (h : MH (A ++ B) N S st ks kv p pl ld L H) : MH B N S st ks kv p pl ld L (A ++ H) := by
 obtain ⟨pd, qd, P, Q, sn, hH, hok, hsn⟩ := h;refine ⟨pd, qd, P, Q, sn, ?_, hok, hsn⟩;have := Has.rot (H := H) A (B ++ (.box kv (.mem 0 false [p.cd, p.sd, .int .i64 (pl : Nat), ld, .ptr ks 0 0]) :: .box ks (.mem 0 false [pd, qd]) :: .lst pd 1 (P.map numC) :: .lst qd 2 (Q.map itC) :: .lst ld 12 (L.map vlC) :: L.map vlE)) (by simpa only [List.append_assoc, List.cons_append] using hH)
 simpa only [List.append_assoc, List.cons_append] using this
structure PL where
 dn : Bool
 best : Cps
 ths : List Thr
def PL.ok (n : Nat) (l : PL) : Prop := (∀ t ∈ l.ths, t.pc < n) ∧ l.ths.length ≤ 1000
def VL.pl (l : VL) : PL := ⟨l.dn, l.best, l.ths⟩
theorem MH.mono {A : List Ent} {N : Nat} {S st : St} {ks kv : Nat} {p : Pg} {pl : Nat} {ld : D} {L : List VL} {H : List Ent} (n : Nat) (h : MH A N S st ks kv p pl ld L H) : MH (A.drop n) N S st ks kv p pl ld L H := by
 obtain ⟨pd, qd, P, Q, sn, hH, hok, hsn⟩ := h;refine ⟨pd, qd, P, Q, sn, ?_, hok, hsn⟩
 rcases Nat.le_total n A.length with hn | hn
 ·have := hH.drop n
  rwa [List.drop_append_of_le_length hn] at this
 ·have := hH.drop A.length;rw [List.drop_append_of_le_length (Nat.le_refl _), List.drop_length] at this;rw [List.drop_eq_nil_of_le hn]; exact this
structure OwnQ (p q : Pg) : Prop where
 ok : q.ok
 code : q.code = p.code.map copyI
 starts : q.starts = p.starts
theorem OwnQ.right {p q : Pg} (h : OwnQ p q) (hR : RightQ p) : RightQ q := (right_copy h.code h.starts).2 hR
def thD (l : List Thr) : D := .sl ((l.map thrC).map (elD 11))
structure AM (N : Nat) (S : St) (kv ks : Nat) (p : Pg) (pl : Nat) (ld : D) (L : List VL) : Prop where
 lt : kv < N
 le : N ≤ S.bs.length
 at_ : S.bs[kv]? = some (.mem 0 false [p.cd, p.sd, .int .i64 (pl : Nat), ld, .ptr ks 0 0])
 ld : Arg N S 12 ld (L.map vlC)
 td : ∀ l ∈ L, Arg N S 11 l.td (l.ths.map thrC)
 ksl : ks < N
theorem AM.box {N : Nat} {S st : St} {H : List Ent} {kv ks : Nat} {p : Pg} {pl : Nat} {ld : D} {L : List VL} (h : AM N S kv ks p pl ld L) (hH : Has N S st H) : st.bs[kv]? = some (.mem 0 false [p.cd, p.sd, .int .i64 (pl : Nat), ld, .ptr ks 0 0]) := by
 rw [hH.ex.low kv h.lt]; exact h.at_
theorem AM.refs {N : Nat} {S st : St} {H : List Ent} {kv ks : Nat} {p : Pg} {pl : Nat} {ld : D} {L : List VL} (h : AM N S kv ks p pl ld L) (hp : p.ok) (hH : Has N S st H) : V.refs [p.cd, p.sd, .int .i64 (pl : Nat), ld, .ptr ks 0 0] ≤ st.bs.length := by
 have h1 := hp.c.ref;have h2 := hp.s.ref;have h3 := h.ld.2;have h4 := h.ksl;have h5 := h.le;have h6 := hH.ex.len;simp only [V.refs, D.ref, h1, h2]; omega
theorem AM.to {N : Nat} {S st : St} {H : List Ent} {kv ks : Nat} {p : Pg} {pl : Nat} {ld : D} {L : List VL} (h : AM N S kv ks p pl ld L) (hH : Has N S st H) (o : Nat) : PtTo st (.ptr kv 0 o) ([p.cd, p.sd, .int .i64 (pl : Nat), ld, .ptr ks 0 0].drop o) :=
 .inl ⟨kv, 0, o, false, _, rfl, St.mem_of (by rw [hH.ex.low kv h.lt]; exact h.at_), List.take_length ..⟩
theorem MH.am {N ks kv : Nat} {S s0 : St} {H : List Ent} {p : Pg} {pl : Nat} {ld : D} {L : List VL} (hM : MH [] N S s0 ks kv p pl ld L H) : AM s0.bs.length s0 kv ks p pl ld L := by
 obtain ⟨pd, qd, P, Q, sn, hH, hok2, hsn⟩ := hM;dsimp only [u4] at hH
 exact ⟨(hH.ge at0).2, Nat.le_refl _, hH.at at0, ⟨hH.rows at4, lstRef hH at4⟩, fun l hl => (by
  obtain ⟨i, hi⟩ := List.getElem?_of_mem hl;have h := vl_at (H := H) [.box kv (.mem 0 false [p.cd, p.sd, .int .i64 (pl : Nat), ld, .ptr ks 0 0]), .box ks (.mem 0 false [pd, qd]), .lst pd 1 (P.map numC), .lst qd 2 (Q.map itC), .lst ld 12 (L.map vlC)] rfl hi
  exact ⟨hH.rows h, lstRef hH h⟩), hH.keyLt at1 rfl⟩
theorem MH.ro {N ks kv : Nat} {S s0 : St} {H : List Ent} {p : Pg} {pl : Nat} {ld : D} {L : List VL} (hM : MH [] N S s0 ks kv p pl ld L H) : s0.ro ≤ s0.bs.length := by
 obtain ⟨pd, qd, P, Q, sn, hH, hok2, hsn⟩ := hM;rw [hH.ex.ro]; exact Nat.le_trans hH.hro (Nat.le_trans hH.hN hH.ex.len)
def placedS (f : Cps) (to : Int) : Prop := ∀ i, i < 10 → -1 ≤ f i ∧ f i ≤ to
end Go.Proofs.YtecjacicdpejaaaGreat
namespace Go.V
variable {P : Pv}
variable {N : Nat} {S st : St} {H : List Ent} {fr fr' : Fr} {ops : Array Oper} {rest : List Oper} {Q : Fr → St → Prop} {dst ty : Nat} {pp : String} {a : Array Edge} {g : Option (Nat × Bool)}
end Go.V
namespace Go.Proofs.YtecjacicdpejaaaGreat
open Go.V Go
structure GT where
 pc : Int
 c : Cps
def gtC (t : GT) : List D := [.int .i64 t.pc, .int .i64 (t.c 0), .int .i64 (t.c 1), .int .i64 (t.c 2), .int .i64 (t.c 3), .int .i64 (t.c 4), .int .i64 (t.c 5), .int .i64 (t.c 6), .int .i64 (t.c 7), .int .i64 (t.c 8), .int .i64 (t.c 9)]
def freeU (p : Pg) (s : Int) (m : Nat) (n : Int) : Prop := n = s ∨ ∃ i q, i < m ∧ n = ((i + 1 : Nat) : Int) ∧ (reachS p.code s)[i]? = some true ∧ p.code[i]? = some q ∧ q.op = 1
def freeN (p : Pg) (s : Int) (ths : List GT) (m : Nat) (n : Int) : Prop := freeU p s p.code.length n ∧ ∀ j t, j < m → ths[j]? = some t → t.pc ≠ n
def waitsN (p : Pg) (s : Int) (ths : List GT) (place : Int) (m : Nat) : Prop := ∀ j t, j < m → ths[j]? = some t → freeN p s ths j t.pc ∧ placedS t.c place
end Go.Proofs.YtecjacicdpejaaaGreat
namespace Go.Proofs.YtecjacicdpejaaaGreat
open Go.V Go
structure GV where
 dn : Bool
 best : Cps
 td : D
 ths : List GT
def gvC (l : GV) : List D := lstC l.dn l.best l.td
def noneP (f : Cps) : Prop := ∀ i, i < 10 → f i = -1
def WellN (p : Pg) (place : Int) (L : List GV) (m : Nat) : Prop := ∀ r l s, r < m → L[r]? = some l → p.starts[r]? = some s → (l.dn = true ∨ noneP l.best) ∧ placedS l.best place ∧ waitsN p s l.ths place l.ths.length
structure WellP (p : Pg) (place : Int) (L : List GV) : Prop where
 right : RightQ p
 ge : 0 ≤ place
 le : place ≤ 1099511627776
 len : L.length = p.starts.length
 each : WellN p place L L.length
theorem WellN.succ {p : Pg} {place : Int} {L : List GV} {m : Nat} {l : GV} {s : Int} (h : WellN p place L m) (hl : L[m]? = some l) (hs : p.starts[m]? = some s) (h1 : (l.dn = true ∨ noneP l.best) ∧ placedS l.best place ∧ waitsN p s l.ths place l.ths.length) : WellN p place L (m + 1) := by
 intro r l' s' hr hl' hs'
 by_cases he : r = m
 ·subst he; rw [hl] at hl'; cases hl'; rw [hs] at hs'; cases hs'; exact h1
 ·exact h r l' s' (by omega) hl' hs'
def GArg (st : St) (x : D) (L : List GV) : Prop := V.Rows st 12 x (L.map gvC) ∧ L.length ≤ 1048576 ∧ ∀ l ∈ L, V.Rows st 11 l.td (l.ths.map gtC) ∧ l.ths.length ≤ 1048576
end Go.Proofs.YtecjacicdpejaaaGreat
namespace Go.Proofs.YtecjacicdpejaaaGreat
open Go.V Go
def Cps.fit (f : Cps) : Prop := ∀ i, i < 10 → f i ≤ 9223372036854775807
def GT.fit (t : GT) : Prop := t.pc < 9223372036854775808 ∧ Cps.fit t.c
def GV.fit (l : GV) : Prop := Cps.fit l.best ∧ ∀ t ∈ l.ths, t.fit
end Go.Proofs.YtecjacicdpejaaaGreat
namespace Go.Proofs.YtecjacicdpejaaaGreat
open Go.V Go
structure Pg.fit (p : Pg) : Prop where
 c : ∀ i ∈ p.code, i.fit
 s : ∀ v ∈ p.starts, v < 9223372036854775808
 cl : p.code.length ≤ 1000
end Go.Proofs.YtecjacicdpejaaaGreat
namespace Go.Proofs.YtecjacicdpejaaaGreat
open Go.V Go
end Go.Proofs.YtecjacicdpejaaaGreat
namespace Go.Proofs.YtecjacicdpejaaaGreat
open Go.V Go
theorem bytesD_cells : ∀ (b : List UInt8), bytesD (b.map fun y => D.int .u8 (y.toNat : Nat)) = some b
 | [] => rfl
 | c :: b => by
  simp only [List.map_cons, bytesD, bytesD_cells b, Option.map_some, Option.some.injEq, List.cons.injEq, and_true];show UInt8.ofNat (((c.toNat : Nat) : Int).toNat) = c;rw [Int.toNat_natCast]; exact UInt8.ofNat_toNat
end Go.Proofs.YtecjacicdpejaaaGreat
namespace Go.Proofs.YtecjacicdpejaaaGreat
open Go.V Go
theorem gUpto_ev {N k : Nat} {S s0 : St} {H : List Ent} {x : D} {b : List UInt8} {s : Rdr} (hbl : b.length ≤ 1099511627776) (hok : s.at_ ≤ b.length) (most : Int) (hH : Has N S s0 (.box k (.mem 0 false (rdC x s)) :: .lst x 1 (byteCells b) :: H)) :
  ∃ d st', Ev pv 152 [.ptr k 0 0, .int .i64 most] s0 d st' ∧ d = .int .i64 (uptoR b most s).1 ∧ Has N S st' (.box k (.mem 0 false (rdC x (uptoR b most s).2)) :: .lst x 1 (byteCells b) :: H) := by
 refine Ev.mkE rfl fi152 rfl rfl rfl ?_;refine zE ?_;have hH0 := hH;have hH := hH.enterRw;have hS2 : (enterSt .rw s0).bs = s0.bs := rfl;generalize enterSt .rw s0 = S2 at *;refine zQ 15 ?_;obtain ⟨_, st, hev, rfl, hH⟩ := gNum_ev hbl hok hH;refine qv hev ?_;refine zQ 2 ?_;unfold uptoR;generalize numR b s = R at *;obtain ⟨n, s1⟩ := R;dsimp only at hH ⊢;refine zQ 2 ?_;refine EvC.cutT 22 (.bool (s1.e == 0 && decide (n > most))) [] ?_ (fun ff tmp htmp => ?_)
 ·refine zQ 6 ?_;refine EvO.two 18 rfl (fun hg5 => ?_) (fun hg5 => ?_)
  ·refine zQ 4 ?_;refine EvO.nil (leafT ?_ ?_)
   ·dsimp only [setW, List.foldl, nth, u2, u1]
    all_goals (first | rfl | simp)
   ·refine zF ?_
    all_goals (simp [hg5]; done)
  ·refine zQ 4 ?_;refine EvO.nil (leafT ?_ ?_)
   ·dsimp only [setW, List.foldl, nth, u2, u1]
    all_goals (first | rfl | simp)
   ·refine zF ?_
    all_goals (simp [hg5]; done)
 dsimp only [setW, List.foldl, nth, u2, u1];refine qc (fun hc => ?_) (fun hc => ?_) <;> try simp only [cs] at hc
 ·have hc : s1.e = 0 ∧ n > most := by simpa using hc
  rw [if_pos hc];refine zQ 4 ?_;obtain ⟨_, st, hev, rfl, hH⟩ := gWrong_ev s.at_ 2 hH;refine qv hev ?_;refine zQ 2 ?_;refine EvC.ret ⟨rx, _, _, _, rfl, leaveD_rw (rfl), ?_⟩;exact ⟨rfl, hH0.leaveRw1 hS2 hH⟩
 ·have hc : ¬ (s1.e = 0 ∧ n > most) := by
   rintro ⟨h1, h2⟩;rw [h1, decide_eq_true h2] at hc; simp at hc
  rw [if_neg hc];refine zQ 6 ?_;refine EvC.ret ⟨rx, _, _, _, rfl, leaveD_rw (rfl), ?_⟩;exact ⟨rfl, hH0.leaveRw1 hS2 hH⟩
theorem conv_strR {st : St} {x : D} {b : List UInt8} (hx : V.Rows st 1 x (byteCells b)) : convD pv 23 9 x st = some (.str b, st) := by
 have hr := hx.row
 have hfl : (byteCells b).flatten = b.map fun y => D.int .u8 (y.toNat : Nat) := by
  clear hx hr;unfold byteCells
  induction b with
  | nil => rfl
  | cons c b ih => rw [List.map_cons, List.flatten_cons, List.map_cons, List.singleton_append, ih]
 rw [hfl, byteCells_len] at hr;have h1 : pv.und 23 = some (.slice 5) := rfl;have h2 : pv.und 9 = some .string := rfl;have h3 : pv.und 5 = some (.int .u8) := rfl
 have h4 : ∀ (x : D), (∀ c, x ≠ .str c) → rowD st x = some (b.length, b.map fun y => D.int .u8 (y.toNat : Nat)) → (match rowD st x with
   | some (n, cs) => match x with
    | .str _ => none
    | _ => if cs.length = n then (bytesD cs).map fun b => (D.str b, st) else none
   | none => none) = some (.str b, st) := fun x hs h => by
  rw [h]
  cases x <;> first | (exact absurd rfl (hs _)) | (simp only [List.length_map, if_true, bytesD_cells, Option.map_some])
 generalize byteCells b = es at hx;have hs : ∀ c, x ≠ .str c := by cases hx <;> intro c e <;> cases e
 have h5 := h4 x hs hr
 cases hx with
 | nul => exact h5
 | sl es h => exact h5
 | win k ver off es ar c hm hl he =>
  simp only [convD, h1, h2, h3, hr, List.length_map, if_true, bytesD_cells, Option.map_some]
theorem gText_ev {N k : Nat} {S s0 : St} {H : List Ent} {x : D} {b : List UInt8} {s : Rdr} (hbl : b.length ≤ 1099511627776) (hok : s.at_ ≤ b.length) (most : Int) (hH : Has N S s0 (.box k (.mem 0 false (rdC x s)) :: .lst x 1 (byteCells b) :: H)) :
  ∃ d st', Ev pv 98 [.ptr k 0 0, .int .i64 most] s0 d st' ∧ d = .str (textR b most s).1 ∧ Has N S st' (.box k (.mem 0 false (rdC x (textR b most s).2)) :: .lst x 1 (byteCells b) :: H) := by
 obtain ⟨o1, o2, o3, o4, o5⟩ := numR_ok (b := b) (s := s) hok
 have hu : (uptoR b most s).2.at_ ≤ b.length ∧ 0 ≤ (uptoR b most s).1 ∧ (uptoR b most s).1 < 9223372036854775808 := by
  unfold uptoR
  split
  ·exact ⟨hok, by simp, by simp⟩
  ·exact ⟨o1, o3, o4⟩
 have hbc := byteCells_len b;refine Ev.mkE rfl fi98 rfl rfl rfl ?_;refine zE ?_;have hH0 := hH;have hH := hH.enterRw;have hS2 : (enterSt .rw s0).bs = s0.bs := rfl;generalize enterSt .rw s0 = S2 at *;refine zQ 16 ?_;obtain ⟨_, st, hev, rfl, hH⟩ := gUpto_ev hbl hok most hH;refine qv hev ?_;refine zQ 2 ?_;unfold textR;generalize uptoR b most s = R at *;obtain ⟨n, s1⟩ := R;dsimp only at hH hu ⊢;obtain ⟨u1, u2, u3⟩ := hu
 obtain ⟨m, rfl⟩ : ∃ m : Nat, n = (m : Nat) := ⟨n.toNat, by omega⟩
 refine zQ 9 ?_;refine EvC.cond (by rfl) (fun he => ?_) (fun he => ?_) <;> try simp only [bne_iff_ne, bne_eq_false_iff_eq, ne_eq] at he
 ·rw [if_pos (by simpa using he)];refine zQ 4 ?_;refine EvC.ret ⟨rx, _, _, _, rfl, leaveD_rw (rfl), ?_⟩;exact ⟨rfl, hH0.leaveRw1 hS2 hH⟩
 rw [if_neg (by simpa using he)];refine zQ 8 ?_;refine qn ?_ (hR := hH.rows at1);refine zQ 4 ?_;refine EvO.subZ (z := (((b.length : Nat) : Int) - (s1.at_ : Nat))) rfl (ev rfl) (ev rfl) (by (try simp only [List.length_reverse, List.length_cons, List.length_nil, List.length_append, List.length_map, List.length_set]); rw [wrap_i64 (by omega) (by omega)] <;> omega) (put_T rfl _) ?_;refine zQ 3 ?_;refine zP (fun hlt => ?_) fun hlt => ?_
 ·rw [if_pos (by omega)];refine zQ 4 ?_;obtain ⟨_, st, hev, rfl, hH⟩ := gWrong_ev s.at_ 3 hH;refine qv hev ?_;refine zQ 5 ?_;refine EvC.ret ⟨rx, _, _, _, rfl, leaveD_rw (rfl), ?_⟩;exact ⟨rfl, hH0.leaveRw1 hS2 hH⟩
 rw [if_neg (by omega)];refine zQ 1 ?_
 have hpt : ∀ {st : St} {e : Ent} {H : List Ent}, Has N S2 st (e :: .lst x 1 (byteCells b) :: H) → V.Rows st 1 (prtD x s1.at_ (s1.at_ + m)) (byteCells ((b.drop s1.at_).take m)) := fun h => by
  have := own_part h (l := s1.at_) (r := s1.at_ + m) (by omega)
  rwa [List.drop_take, Nat.add_sub_cancel_left] at this
 have hcv := conv_strR (hpt hH);refine zQ 15 ?_;refine EvO.addZ (z := ((s1.at_ + m : Nat) : Int)) rfl (ev rfl) (ev rfl) (by (try simp only [List.length_reverse, List.length_cons, List.length_nil, List.length_append, List.length_map, List.length_set]); rw [wrap_i64 (by omega) (by omega)] <;> omega) (put_T rfl _) ?_;refine EvO.prt rfl (ev rfl) (hH.rows at1) rfl rfl (bounds_both (m := s1.at_) (n := s1.at_ + m) (by rw [byteCells_len]; omega)) ⟨by omega, by rw [byteCells_len]; omega⟩ (put_T rfl _) ?_;refine EvO.go (d := .str ((b.drop s1.at_).take m)) (st1 := _) rfl rfl (by exact hcv) (put_T rfl _) ?_;refine zQ 9 ?_;refine EvO.addZ (z := ((s1.at_ + m : Nat) : Int)) rfl (ev rfl) (ev rfl) (by (try simp only [List.length_reverse, List.length_cons, List.length_nil, List.length_append, List.length_map, List.length_set]); rw [wrap_i64 (by omega) (by omega)] <;> omega) (put_T rfl _) ?_;refine zQ 2 ?_;refine qT hH at0 fun st hH => ?_;dsimp only [u2, u1, u3, u4, setMany, u5, u6, D.cells, Nat.reduceAdd, rdC] at hH;refine zQ 6 ?_;refine EvC.ret ⟨rx, _, _, _, rfl, leaveD_rw (rfl), ?_⟩;have he : s1.e = 0 := by simpa using he
 rw [he] at hH;exact ⟨rfl, hH0.leaveRw1 hS2 hH⟩
theorem gRead_ev {s0 : St} {x : D} {b : List UInt8} (hF : s0.flr ≤ s0.bs.length) (hro : s0.ro ≤ s0.bs.length) (hx : V.Rows s0 1 x (byteCells b)) (hl : b.length ≤ 68719476736) :
  ∃ d st', Ev pv 35 [x] s0 d st' ∧ ∃ k y, d = .ptr k 0 0 ∧ Has s0.bs.length s0 st' [.box k (.mem 0 false (rdC y ⟨0, 0⟩)), .lst y 1 (byteCells b)] := by
 have hbc := byteCells_len b;refine Ev.mkE rfl fi35 rfl rfl rfl ?_;refine zE ?_;have hSb : (enterSt .nw s0).bs = s0.bs := rfl;have hF : (enterSt .nw s0).flr ≤ s0.bs.length := hF;have hH : Has s0.bs.length (enterSt .nw s0) (enterSt .nw s0) [] := Has.start (Nat.le_refl _) (Nat.le_refl _);generalize enterSt .nw s0 = S at *;have hx := Arg.of hx hSb;refine zQ 4 ?_;have hH := hH.nulE 1;refine zQ 3 ?_;refine EvO.happendB (s := 1) hH rfl (ev rfl) (ev rfl) (by exact at0) (by exact Arg.rows (by assumption) hH) rfl rfl rfl rfl rfl rfl rfl ⟨(Nat.le_of_ble_eq_true rfl), (Nat.le_of_ble_eq_true rfl)⟩ (fun _ => (put_T rfl _)) rfl (by simp only [List.length_nil] <;> omega) (by exact .inl hF) (fun x4 st hH => ?_);dsimp only [u2, u1, u3, u4, setMany, u5, u6, D.cells, Nat.reduceAdd, rdC] at hH;refine EvO.ones (qs := [(0, _)]) rfl rfl rfl rfl ⟨rfl, (ev rfl), (by exact hH.ocells (by exact at0)), trivial⟩ (by intro q hq; simp only [List.mem_cons, List.not_mem_nil, or_false] at hq; rcases hq with rfl <;> exact ⟨rfl, by exact Nat.le_of_ble_eq_true rfl⟩) (by show List.foldl _ [_, _, _] _ = _; dsimp only [List.foldl_cons, List.foldl_nil, u2, u1] <;> rfl) (put_T rfl _) ?_;refine qb hH fun k6 st hk6 hH => ?_;refine zQ 2 ?_;refine EvC.ret ⟨rx, _, _, _, rfl, rfl, ?_⟩;exact ⟨_, _, rfl, (hH.take 2).leaveNw hSb hro⟩
end Go.Proofs.YtecjacicdpejaaaGreat
namespace Go.Proofs.YtecjacicdpejaaaGreat
open Go.V Go
end Go.Proofs.YtecjacicdpejaaaGreat
namespace Go.Proofs.YtecjacicdpejaaaGreat
open Go.V Go
end Go.Proofs.YtecjacicdpejaaaGreat
namespace Go.Proofs.YtecjacicdpejaaaGreat
open Go.V Go
def LRows (es : List (List D)) (L : List PL) : Prop := es.length = L.length ∧ ∀ (i : Nat) l, L[i]? = some l → ∃ d, SlD d 11 (l.ths.map thrC) ∧ es[i]? = some (lstC l.dn l.best d)
def LRowsA (st : St) (es : List (List D)) (L : List PL) : Prop := es.length = L.length ∧ ∀ (i : Nat) l, L[i]? = some l → ∃ d, V.Rows st 11 d (l.ths.map thrC) ∧ es[i]? = some (lstC l.dn l.best d)
theorem LRows.any {es : List (List D)} {L : List PL} (h : LRows es L) (st : St) : LRowsA st es L := ⟨h.1, fun i l hl => by
 obtain ⟨d, h1, h2⟩ := h.2 i l hl
 exact ⟨d, h1.rows st, h2⟩⟩
theorem LRowsA.ex {s0 S st : St} {H : List Ent} {es : List (List D)} {L : List PL} (h : LRowsA s0 es L) (hS : S.bs = s0.bs) (hH : Has s0.bs.length S st H) : LRowsA st es L := ⟨h.1, fun i l hl => by
 obtain ⟨d, h1, h2⟩ := h.2 i l hl
 exact ⟨d, (Arg.of h1 hS).rows hH, h2⟩⟩
end Go.Proofs.YtecjacicdpejaaaGreat
namespace Go.Proofs.YtecjacicdpejaaaGreat
open Go.V Go
def PL.v (l : PL) : VL := ⟨l.dn, l.best, thD l.ths, l.ths⟩
end Go.Proofs.YtecjacicdpejaaaGreat
namespace Go.Proofs.YtecjacicdpejaaaGreat
open Go.V Go
end Go.Proofs.YtecjacicdpejaaaGreat
namespace Go.Proofs.YtecjacicdpejaaaGreat
open Go.V Go Go.RowKit
theorem chk_rd {x y : Oper} {fi fj : Fr} {si si' sj sj' : St} {a : Operand} {k ver off v : Nat} {ar : Bool} {c : List D} (hy : rdOp? y.op = some a) (ha : fj.ev a = .ptr k ver off) (h1 : si.bs[k]? = some (.mem v ar c)) (h2 : si'.bs[k]? = some (.mem v ar c)) : pairOk x fi si si' y fj sj sj' = true := by
 unfold pairOk;simp only [hy, ha, D.box?];exact stillB_of h1 h2
end Go.Proofs.YtecjacicdpejaaaGreat
namespace Go.Proofs.YtecjacicdpejaaaGreat
open Go.V Go
def mEnts (ks kv : Nat) (p : Pg) (pl : Nat) (ld pd qd : D) (P Q : List Nat) (L : List VL) : List Ent :=
 .box kv (.mem 0 false [p.cd, p.sd, .int .i64 (pl : Nat), ld, .ptr ks 0 0]) :: .box ks (.mem 0 false [pd, qd]) :: .lst pd 1 (P.map numC) :: .lst qd 2 (Q.map itC) :: .lst ld 12 (L.map vlC) :: L.map vlE
theorem mh_of {A : List Ent} {N : Nat} {S st : St} {ks kv : Nat} {p : Pg} {pl : Nat} {ld : D} {L : List VL} {H : List Ent} (h : MH A N S st ks kv p pl ld L H) : ∃ pd qd P Q sn, Has N S st (A ++ (mEnts ks kv p pl ld pd qd P Q L ++ H)) ∧ SetOk P Q sn ∧ sn.length = p.code.length := by
 obtain ⟨pd, qd, P, Q, sn, hH, h1, h2⟩ := h;exact ⟨pd, qd, P, Q, sn, by simpa only [mEnts, List.cons_append] using hH, h1, h2⟩
theorem mh_is {A : List Ent} {N : Nat} {S st : St} {ks kv : Nat} {p : Pg} {pl : Nat} {ld : D} {L : List VL} {H : List Ent} {pd qd : D} {P Q : List Nat} {sn : List Bool} (hH : Has N S st (A ++ (mEnts ks kv p pl ld pd qd P Q L ++ H))) (h1 : SetOk P Q sn) (h2 : sn.length = p.code.length) : MH A N S st ks kv p pl ld L H :=
 ⟨pd, qd, P, Q, sn, by simpa only [mEnts, List.cons_append] using hH, h1, h2⟩
def MM (A : List Ent) (N : Nat) (S st : St) (ks kv : Nat) (p : Pg) (pl : Nat) (ld : D) (L : List VL) (ks2 kv2 : Nat) (p2 : Pg) (pl2 : Nat) (ld2 : D) (L2 : List VL) : Prop :=
 ∃ pd qd P Q sn pd2 qd2 P2 Q2 sn2, Has N S st (A ++ (mEnts ks kv p pl ld pd qd P Q L ++ mEnts ks2 kv2 p2 pl2 ld2 pd2 qd2 P2 Q2 L2)) ∧ SetOk P Q sn ∧ sn.length = p.code.length ∧ SetOk P2 Q2 sn2 ∧ sn2.length = p2.code.length
section
variable {A : List Ent} {N : Nat} {S st : St} {ks kv ks2 kv2 : Nat} {p p2 : Pg} {pl pl2 : Nat} {ld ld2 : D} {L L2 : List VL}
theorem MM.one (h : MM A N S st ks kv p pl ld L ks2 kv2 p2 pl2 ld2 L2) : ∃ H, MH [] N S st ks kv p pl ld L H ∧ ∀ (B : List Ent) (st' : St) (pl' : Nat) (ld' : D) (L' : List VL), MH B N S st' ks kv p pl' ld' L' H → MM (B ++ A) N S st' ks kv p pl' ld' L' ks2 kv2 p2 pl2 ld2 L2 := by
 obtain ⟨pd, qd, P, Q, sn, pd2, qd2, P2, Q2, sn2, hH, h1, h2, h3, h4⟩ := h
 refine ⟨mEnts ks2 kv2 p2 pl2 ld2 pd2 qd2 P2 Q2 L2 ++ A, mh_is (by
  have a := Has.rot A (mEnts ks kv p pl ld pd qd P Q L ++ mEnts ks2 kv2 p2 pl2 ld2 pd2 qd2 P2 Q2 L2) (H := []) (by rw [List.append_nil]; exact hH);rw [List.append_nil, List.append_assoc] at a
  exact a) h1 h2, fun B st' pl' ld' L' hM => ?_⟩
 obtain ⟨pd', qd', P', Q', sn', hH', h1', h2'⟩ := mh_of hM;refine ⟨pd', qd', P', Q', sn', pd2, qd2, P2, Q2, sn2, ?_, h1', h2', h3, h4⟩
 have a := Has.rot (B ++ (mEnts ks kv p pl' ld' pd' qd' P' Q' L' ++ mEnts ks2 kv2 p2 pl2 ld2 pd2 qd2 P2 Q2 L2)) A (H := []) (by rw [List.append_nil]; simpa only [List.append_assoc] using hH');have b : Has N S st' (A ++ (B ++ ((mEnts ks kv p pl' ld' pd' qd' P' Q' L' ++ mEnts ks2 kv2 p2 pl2 ld2 pd2 qd2 P2 Q2 L2) ++ []))) := by simpa only [List.append_assoc] using a
 have c := Has.rot _ _ b;rw [List.append_nil] at c
 simpa only [List.append_assoc] using c
theorem MM.drop (n : Nat) (h : MM A N S st ks kv p pl ld L ks2 kv2 p2 pl2 ld2 L2) (hn : n ≤ A.length) : MM (A.drop n) N S st ks kv p pl ld L ks2 kv2 p2 pl2 ld2 L2 := by
 obtain ⟨pd, qd, P, Q, sn, pd2, qd2, P2, Q2, sn2, hH, h1, h2, h3, h4⟩ := h;refine ⟨pd, qd, P, Q, sn, pd2, qd2, P2, Q2, sn2, ?_, h1, h2, h3, h4⟩;have := hH.drop n
 rwa [List.drop_append_of_le_length hn] at this
theorem MM.has (h : MM A N S st ks kv p pl ld L ks2 kv2 p2 pl2 ld2 L2) : Has N S st A := by
 obtain ⟨pd, qd, P, Q, sn, pd2, qd2, P2, Q2, sn2, hH, _⟩ := h;have := hH.take A.length
 rwa [List.take_left] at this
theorem MM.made {pd qd : D} {P Q : List Nat} {sn : List Bool} (h : MH [] N S st ks kv p pl ld L (mEnts ks2 kv2 p2 pl2 ld2 pd qd P Q L2 ++ A)) (h1 : SetOk P Q sn) (h2 : sn.length = p2.code.length) : MM A N S st ks kv p pl ld L ks2 kv2 p2 pl2 ld2 L2 := by
 obtain ⟨pd', qd', P', Q', sn', hH, h3, h4⟩ := mh_of h;refine ⟨pd', qd', P', Q', sn', pd, qd, P, Q, sn, ?_, h3, h4, h1, h2⟩;have a := Has.rot (mEnts ks kv p pl ld pd' qd' P' Q' L ++ mEnts ks2 kv2 p2 pl2 ld2 pd qd P Q L2) A (H := []) (by rw [List.append_nil]; simpa only [List.nil_append, List.append_assoc] using hH)
 rwa [List.append_nil] at a
end
end Go.Proofs.YtecjacicdpejaaaGreat
namespace Go.Proofs.YtecjacicdpejaaaGreat
open Go.V Go
theorem Has.over {N : Nat} {S st st' : St} {H H2 : List Ent} (h : Has N S st H) (h2 : Has st.bs.length st st' H2) : Has N S st' (H2 ++ H) := by
 have hN := h.hN;have hl := h.ex.len;have hl2 := h2.ex.len;refine ⟨⟨fun k hk => ?_, by omega, h2.ex.flr.trans h.ex.flr, h2.ex.ro.trans h.ex.ro⟩, hN, h.hro, fun i e hi => ?_, fun i j a b hij ha hb k hka hkb => ?_⟩
 ·rw [h2.ex.low k (by omega)]; exact h.ex.low k hk
 ·by_cases hlt : i < H2.length
  ·rw [List.getElem?_append_left hlt] at hi;obtain ⟨h3, h4⟩ := h2.ok i e hi;exact ⟨h3, fun k hk => ⟨by have := (h4 k hk).1; omega, (h4 k hk).2⟩⟩
  ·rw [List.getElem?_append_right (by omega)] at hi;obtain ⟨h3, h4⟩ := h.ok _ e hi;exact ⟨e.loc (fun k hk => h2.ex.low k (h4 k hk).2) h3, fun k hk => ⟨(h4 k hk).1, by have := (h4 k hk).2; omega⟩⟩
 ·by_cases h1 : i < H2.length <;> by_cases h3 : j < H2.length
  ·rw [List.getElem?_append_left h1] at ha;rw [List.getElem?_append_left h3] at hb;exact h2.dis i j a b hij ha hb k hka hkb
  ·rw [List.getElem?_append_left h1] at ha;rw [List.getElem?_append_right (by omega)] at hb;have := ((h2.ok _ a ha).2 k hka).1;have := ((h.ok _ b hb).2 k hkb).2;omega
  ·rw [List.getElem?_append_right (by omega)] at ha;rw [List.getElem?_append_left h3] at hb;have := ((h2.ok _ b hb).2 k hkb).1;have := ((h.ok _ a ha).2 k hka).2;omega
  ·rw [List.getElem?_append_right (by omega)] at ha hb;exact h.dis _ _ a b (by omega) ha hb k hka hkb
end Go.Proofs.YtecjacicdpejaaaGreat
namespace Go.Proofs.YtecjacicdpejaaaGreat
open Go.V Go
/-- a decoder's cells: it holds h, j stands behind -/
def decC (h j : List UInt8) : List D := (h ++ j).map u8D ++ [.int .i64 (h.length : Nat)]
end Go.Proofs.YtecjacicdpejaaaGreat
namespace Go.Proofs.YtecjacicdpejaaaGreat
open Go.V Go
end Go.Proofs.YtecjacicdpejaaaGreat
namespace Go.Proofs.YtecjacicdpejaaaGreat
open Go.V Go
/- the plain law: byte by byte is all at once -/
end Go.Proofs.YtecjacicdpejaaaGreat
namespace Go.Proofs.YtecjacicdpejaaaGreat
open Go.V Go
def SH (A : List Ent) (N : Nat) (S st : St) (kS kd kv ks : Nat) (p : Pg) (pl : Nat) (ld : D) (L : List VL) (h : List UInt8) (H : List Ent) : Prop :=
 ∃ pd qd P Q sn js, Has N S st (A ++ (.box kS (.mem 0 false [.ptr kd 0 0, .ptr kv 0 0]) :: .box kd (.mem 0 false (decC h js)) :: (mEnts ks kv p pl ld pd qd P Q L ++ H))) ∧ SetOk P Q sn ∧ sn.length = p.code.length ∧ (h ++ js).length = 4
end Go.Proofs.YtecjacicdpejaaaGreat
namespace Go.Proofs.YtecjacicdpejaaaGreat
open Go.V Go
theorem bytesV_sl (b : List UInt8) : SlD (bytesV b) 1 (byteCells b) := SlD.frozen (byteCells_one b) (byteCells_plain b)
structure AS (st : St) (kS kd kv ks : Nat) (p : Pg) (pl : Nat) (ld : D) (L : List VL) (h js : List UInt8) : Prop where
 s : st.bs[kS]? = some (.mem 0 false [.ptr kd 0 0, .ptr kv 0 0])
 sl : kS < st.bs.length
 d : st.bs[kd]? = some (.mem 0 false (decC h js))
 dl : kd < st.bs.length
 hl : (h ++ js).length = 4
 m : AM st.bs.length st kv ks p pl ld L
 ro : st.ro ≤ st.bs.length
theorem SH.as {N kS kd kv ks : Nat} {S s0 : St} {H : List Ent} {p : Pg} {pl : Nat} {ld : D} {L : List VL} {h : List UInt8} (hM : SH [] N S s0 kS kd kv ks p pl ld L h H) : ∃ js, AS s0 kS kd kv ks p pl ld L h js := by
 obtain ⟨pd, qd, P, Q, sn, js, hH, hok, hsn, hl⟩ := hM;dsimp only [u4] at hH;have hM : MH [] N S s0 ks kv p pl ld L ([_, _] ++ H) := MH.push [_, _] [] (H := H) (mh_is hH hok hsn);exact ⟨js, hH.at at0, (hH.ge at0).2, hH.at at1, (hH.ge at1).2, hl, hM.am, hM.ro⟩
theorem AM.bs {N : Nat} {S S2 : St} {kv ks : Nat} {p : Pg} {pl : Nat} {ld : D} {L : List VL} (h : AM N S kv ks p pl ld L) (hS : S2.bs = S.bs) : AM N S2 kv ks p pl ld L :=
 ⟨h.lt, by rw [hS]; exact h.le, by rw [hS]; exact h.at_, ⟨h.ld.1.bs hS, h.ld.2⟩, fun l hl => ⟨(h.td l hl).1.bs hS, (h.td l hl).2⟩, h.ksl⟩
end Go.Proofs.YtecjacicdpejaaaGreat
namespace Go.Proofs.YtecjacicdpejaaaGreat
open Go.V Go
section
variable {A : List Ent} {N kS kd kv ks : Nat} {S s0 : St} {p : Pg} {pl : Nat} {ld : D} {L : List VL} {h : List UInt8} {H : List Ent}
theorem SH.push (hM : SH A N S s0 kS kd kv ks p pl ld L h H) : SH [] N S s0 kS kd kv ks p pl ld L h (A ++ H) := by
 obtain ⟨pd, qd, P, Q, sn, js, hH, h1, h2, h3⟩ := hM;refine ⟨pd, qd, P, Q, sn, js, ?_, h1, h2, h3⟩;have := Has.rot A (_ :: _ :: mEnts ks kv p pl ld pd qd P Q L) (H := H) (by simpa only [List.cons_append, List.append_assoc] using hH)
 simpa only [List.nil_append, List.cons_append, List.append_assoc] using this
theorem SH.has (hM : SH A N S s0 kS kd kv ks p pl ld L h H) : Has N S s0 A := by
 obtain ⟨pd, qd, P, Q, sn, js, hH, h1, h2, h3⟩ := hM;have := hH.take A.length
 rwa [List.take_left] at this
end
end Go.Proofs.YtecjacicdpejaaaGreat
namespace Go.Proofs.YtecjacicdpejaaaGreat
open Go.V Go
theorem freeU_in {p : Pg} (hR : RightQ p) {s : Int} (hs : 0 ≤ s ∧ s < (p.code.length : Int)) {m : Nat} {n : Int} (h : freeU p s m n) : 0 ≤ n ∧ n < (p.code.length : Int) := by
 rcases h with rfl | ⟨i, q, h1, rfl, h3, h4, h5⟩
 ·exact hs
 ·have h6 := hR.sh i q h4;unfold shapedS at h6;rw [if_pos h5] at h6;simp only [Bool.and_eq_true, decide_eq_true_eq] at h6;exact ⟨by omega, h6.2.1.1⟩
def SeenN (ths : List GT) (j : Nat) (seen : List Bool) : Prop := ∀ (k : Nat) b, seen[k]? = some b → (b = true ↔ ∃ j' t, j' < j ∧ ths[j']? = some t ∧ t.pc = (k : Int))
theorem SeenN.nil (ths : List GT) (n : Nat) : SeenN ths 0 (List.replicate n false) := by
 intro k b h;rw [List.getElem?_replicate] at h
 split at h
 ·cases h; simp
 ·cases h
theorem SeenN.set {ths : List GT} {j k : Nat} {seen : List Bool} {t : GT} (h : SeenN ths j seen) (ht : ths[j]? = some t) (hk : t.pc = (k : Int)) : SeenN ths (j + 1) (seen.set k true) := by
 intro k' b hb;rw [List.getElem?_set] at hb
 by_cases he : k = k'
 ·subst he;rw [if_pos rfl] at hb
  split at hb
  ·cases hb;exact ⟨fun _ => ⟨j, t, by omega, ht, hk⟩, fun _ => rfl⟩
  ·cases hb
 ·rw [if_neg he] at hb;rw [h k' b hb];constructor
  ·rintro ⟨j', t', h1, h2, h3⟩; exact ⟨j', t', by omega, h2, h3⟩
  ·rintro ⟨j', t', h1, h2, h3⟩
   by_cases hj : j' = j
   ·subst hj; rw [ht] at h2; cases h2; omega
   ·exact ⟨j', t', by omega, h2, h3⟩
end Go.Proofs.YtecjacicdpejaaaGreat
namespace Go.Proofs.YtecjacicdpejaaaGreat
open Go.V Go
def GT.thr (t : GT) : Thr := ⟨t.pc.toNat, t.c⟩
def GV.v (l : GV) : VL := ⟨l.dn, l.best, l.td, l.ths.map GT.thr⟩
theorem thr_cells {l : List GT} (h : ∀ t ∈ l, 0 ≤ t.pc) : (l.map GT.thr).map thrC = l.map gtC := by
 rw [List.map_map];refine List.map_congr_left fun t ht => ?_;obtain ⟨k, hk⟩ := Int.eq_ofNat_of_zero_le (h t ht);obtain ⟨pc, c⟩ := t;simp only at hk;subst hk
 rfl
theorem WellP.thr {p : Pg} {place : Int} {L : List GV} (h : WellP p place L) {l : GV} (hl : l ∈ L) {t : GT} (ht : t ∈ l.ths) : 0 ≤ t.pc ∧ t.pc < (p.code.length : Int) := by
 obtain ⟨r, hr⟩ := List.getElem?_of_mem hl;obtain ⟨j, hj⟩ := List.getElem?_of_mem ht;have hrl := lt_get hr;have hlen := h.len
 obtain ⟨s, hs⟩ : ∃ s, p.starts[r]? = some s := ⟨p.starts[r]'(by omega), List.getElem?_eq_getElem _⟩
 exact freeU_in h.right (h.right.st s (List.mem_of_getElem? hs)) ((h.each r l s hrl hr hs).2.2 j t (lt_get hj) hj).1.1
theorem WellP.cells {p : Pg} {place : Int} {L : List GV} (h : WellP p place L) {l : GV} (hl : l ∈ L) : l.v.ths.map thrC = l.ths.map gtC := thr_cells fun t ht => (h.thr hl ht).1
theorem WellP.ok {p : Pg} {place : Int} {L : List GV} (h : WellP p place L) (ht : ∀ l ∈ L, l.ths.length ≤ 1000) : ∀ l ∈ (L.map GV.v).map VL.pl, l.ok p.code.length := by
 intro q hq;obtain ⟨v, hv, rfl⟩ := List.mem_map.1 hq;obtain ⟨l, hl, rfl⟩ := List.mem_map.1 hv;refine ⟨fun t h' => ?_, by show (l.ths.map GT.thr).length ≤ 1000; rw [List.length_map]; exact ht l hl⟩;obtain ⟨u, hu, rfl⟩ := List.mem_map.1 (show t ∈ l.ths.map GT.thr from h');have := h.thr hl hu;show u.pc.toNat < _;omega
structure GIn (x : D) (L : List GV) : Prop where
 sl : SlD x 12 (L.map gvC)
 ln : L.length ≤ 12
 th : ∀ l ∈ L, SlD l.td 11 (l.ths.map gtC) ∧ l.ths.length ≤ 500
theorem GIn.arg {x : D} {L : List GV} (h : GIn x L) (st : St) : GArg st x L := ⟨h.sl.rows st, by have := h.ln; omega, fun l hl => ⟨(h.th l hl).1.rows st, by have := (h.th l hl).2; omega⟩⟩
end Go.Proofs.YtecjacicdpejaaaGreat
namespace Go.Proofs.YtecjacicdpejaaaGreat
open Go.V Go
end Go.Proofs.YtecjacicdpejaaaGreat
namespace Go.Proofs.YtecjacicdpejaaaGreat
open Go.V Go
theorem gt_plain (l : List GT) : ∀ e ∈ l.map gtC, ∀ d ∈ e, plainC d = true := by
 intro e he d hd; obtain ⟨q, _, rfl⟩ := List.mem_map.1 he;simp only [gtC, List.mem_cons, List.not_mem_nil, or_false] at hd
 rcases hd with rfl | rfl | rfl | rfl | rfl | rfl | rfl | rfl | rfl | rfl | rfl <;> rfl
theorem gt_len (l : List GT) : ∀ e ∈ l.map gtC, e.length = 11 := by
 intro e he; obtain ⟨q, _, rfl⟩ := List.mem_map.1 he; rfl
def gtD (l : List GT) : D := .sl ((l.map gtC).map (elD 11))
theorem gt_sl (l : List GT) : SlD (gtD l) 11 (l.map gtC) := SlD.frozen (gt_len l) (gt_plain l)
def GV.told (l : GV) : GV := ⟨l.dn, l.best, gtD l.ths, l.ths⟩
def listsG (L : List GV) : D := .sl (((L.map GV.told).map gvC).map (elD 12))
theorem gv_len (L : List GV) : ∀ e ∈ L.map gvC, e.length = 12 := by
 intro e he; obtain ⟨q, _, rfl⟩ := List.mem_map.1 he; rfl
theorem told_plain (L : List GV) : ∀ e ∈ (L.map GV.told).map gvC, ∀ d ∈ e, plainC d = true := by
 intro e he d hd; obtain ⟨q, hq, rfl⟩ := List.mem_map.1 he;obtain ⟨g, _, rfl⟩ := List.mem_map.1 hq;simp only [gvC, lstC, GV.told, gtD, List.mem_cons, List.not_mem_nil, or_false] at hd
 rcases hd with rfl | rfl | rfl | rfl | rfl | rfl | rfl | rfl | rfl | rfl | rfl | rfl <;> rfl
theorem GIn.told {x : D} {L : List GV} (h : GIn x L) : GIn (listsG L) (L.map GV.told) := by
 refine ⟨SlD.frozen (gv_len _) (told_plain L), by rw [List.length_map]; exact h.ln, fun l hl => ?_⟩;obtain ⟨g, hg, rfl⟩ := List.mem_map.1 hl;exact ⟨gt_sl _, (h.th g hg).2⟩
end Go.Proofs.YtecjacicdpejaaaGreat
namespace Go.Proofs.YtecjacicdpejaaaGreat
open Go.V Go
def itemsL {α : Type} (one : Rdr → α × Rdr) : Nat → Rdr → List α × Rdr
 | 0, s => ([], s)
 | n + 1, s => if s.e ≠ 0 then ([], s) else ((one s).1 :: (itemsL one n (one s).2).1, (itemsL one n (one s).2).2)
theorem itemsL_err {α : Type} (one : Rdr → α × Rdr) {s : Rdr} (h : s.e ≠ 0) : ∀ n, itemsL one n s = ([], s)
 | 0 => rfl
 | n + 1 => by unfold itemsL; rw [if_pos h]
theorem uptoR_ok {b : List UInt8} {m : Int} {s : Rdr} (h : s.at_ ≤ b.length) : (uptoR b m s).2.at_ ≤ b.length ∧ 0 ≤ (uptoR b m s).1 ∧ (uptoR b m s).1 < 9223372036854775808 ∧ ((uptoR b m s).2.e = 0 → (uptoR b m s).1 ≤ max m 0) := by
 obtain ⟨o1, o2, o3, o4, o5⟩ := numR_ok (b := b) (s := s) h;unfold uptoR
 split
 ·exact ⟨h, by simp, by simp, fun h => by simp at h⟩
 ·rename_i hn
  exact ⟨o1, o3, o4, fun h => by
   by_cases h' : m < (numR b s).1
   ·exact absurd ⟨h, h'⟩ hn
   ·omega⟩
theorem itemsR_ok {b : List UInt8} {m : Int} {s : Rdr} (h : s.at_ ≤ b.length) : (itemsR b m s).2.at_ ≤ b.length ∧ 0 ≤ (itemsR b m s).1 ∧ (itemsR b m s).1 < 9223372036854775808 ∧ ((itemsR b m s).2.e = 0 → (itemsR b m s).1 ≤ max m 0) := by
 obtain ⟨o1, o2, o3, o4⟩ := uptoR_ok (m := m) h;unfold itemsR
 split
 ·exact ⟨h, o2, o3, fun h => by simp at h⟩
 ·exact ⟨o1, o2, o3, o4⟩
theorem itemsL_ok {α : Type} {b : List UInt8} {one : Rdr → α × Rdr} (ho : ∀ s : Rdr, s.at_ ≤ b.length → (one s).2.at_ ≤ b.length) : ∀ n (s : Rdr), s.at_ ≤ b.length → (itemsL one n s).2.at_ ≤ b.length
 | 0, s, h => h
 | n + 1, s, h => by
  unfold itemsL
  split
  ·exact h
  ·exact itemsL_ok ho n _ (ho s h)
end Go.Proofs.YtecjacicdpejaaaGreat
namespace Go.Proofs.YtecjacicdpejaaaGreat
open Go.V Go
def ixF_Oc (fr : Go.V.Fr) (k : Nat) : Go.V.D := Go.V.nth .junk fr.loc k
theorem valB_ge : ∀ (l : List UInt8) (u : Nat), u * 256 ^ l.length ≤ valB u l
 | [], u => by simp [valB]
 | c :: l, u => by
  simp only [valB, List.length_cons];have h1 := valB_ge l (u * 256 + c.toNat);rw [Nat.pow_succ, Nat.mul_comm (256 ^ l.length) 256, ← Nat.mul_assoc];exact Nat.le_trans (Nat.mul_le_mul_right _ (by omega)) h1
theorem valB_le (l : List UInt8) (u : Nat) : u ≤ valB u l := by
 have h1 := valB_ge l u;have h2 : 0 < 256 ^ l.length := Nat.pow_pos (by decide);exact Nat.le_trans (Nat.le_mul_of_pos_right u h2) h1
theorem valB_8 {z : UInt8} {l : List UInt8} (h : l.length = 7) : 9223372036854775808 ≤ valB 0 (z :: l) ↔ 127 < z.toNat := by
 have h1 := valB_ge l (0 * 256 + z.toNat);have h2 := valB_lt l (0 * 256 + z.toNat);rw [h, show (256 : Nat) ^ 7 = 72057594037927936 by decide] at h1 h2;show 9223372036854775808 ≤ valB (0 * 256 + z.toNat) l ↔ _;omega
theorem valB_7 {l : List UInt8} (h : l.length ≤ 7) : valB 0 l < 9223372036854775808 := by
 have h2 := valB_lt l 0;have h1 : 256 ^ l.length ≤ 256 ^ 7 := Nat.pow_le_pow_right (by decide) h;have h3 : (256 : Nat) ^ 7 = 72057594037927936 := by decide
 omega
theorem shli_op (u : Nat) (h : u * 256 < 9223372036854775808) (st : St) : (binD pv .shl 3 (.int .i64 (u : Nat)) (.int .i64 8)).map (fun d => (d, st)) = some (.int .i64 ((u * 256 : Nat) : Int), st) := by
 show Option.map _ (if (8 : Int) < 0 then none else some (D.int .i64 (wrapD .i64 ((u : Nat) * 2 ^ (min (8 : Int).toNat 64))))) = _
 rw [if_neg (by decide), show ((u : Nat) : Int) * 2 ^ (min (8 : Int).toNat 64) = ((u * 256 : Nat) : Int) by
  rw [show (min (8 : Int).toNat 64) = 8 from rfl]; omega, wrap_nat (by simp only [maxN]; omega)]
 rfl
theorem ori_op (u c : Nat) (hc : c < 256) (h : u * 256 + c < 9223372036854775808) (st : St) : (binD pv .or 3 (.int .i64 ((u * 256 : Nat) : Int)) (.int .i64 (c : Nat))).map (fun d => (d, st)) = some (.int .i64 ((u * 256 + c : Nat) : Int), st) := by
 show Option.map _ (some (D.int .i64 (wrapD .i64 ((BitVec.ofInt 64 ((u * 256 : Nat) : Int) ||| BitVec.ofInt 64 ((c : Nat) : Int)).toNat : Nat)))) = _;rw [BitVec.ofInt_natCast, BitVec.ofInt_natCast, BitVec.toNat_or, BitVec.toNat_ofNat, BitVec.toNat_ofNat, Nat.mod_eq_of_lt (by omega), Nat.mod_eq_of_lt (by omega)]
 have e : u * 256 ||| c = u * 256 + c := by
  have := Nat.shiftLeft_add_eq_or_of_lt (i := 8) (b := c) hc u;rw [Nat.shiftLeft_eq] at this;exact this.symm
 rw [e, wrap_nat (by simp only [maxN]; omega)]; rfl
theorem hNum_ev {N k : Nat} {S s0 : St} {H : List Ent} {x : D} {b : List UInt8} {s : Rdr} (hbl : b.length ≤ 1099511627776) (hok : s.at_ ≤ b.length) (hH : Has N S s0 (.box k (.mem 0 false (rdC x s)) :: .lst x 1 (byteCells b) :: H)) :
  ∃ d st', Ev pv 38 [.ptr k 0 0] s0 d st' ∧ d = .int .i64 (numR b s).1 ∧ Has N S st' (.box k (.mem 0 false (rdC x (numR b s).2)) :: .lst x 1 (byteCells b) :: H) := by
 have hbc := byteCells_len b;refine Ev.mkE rfl fi38 rfl rfl rfl ?_;refine zE ?_;have hH0 := hH;have hH := hH.enterRw;have hS2 : (enterSt .rw s0).bs = s0.bs := rfl;generalize enterSt .rw s0 = S2 at *;refine zQ 13 ?_;refine EvC.cond (by rfl) (fun he => ?_) (fun he => ?_) <;> try simp only [bne_iff_ne, bne_eq_false_iff_eq, ne_eq] at he
 ·have hv : numR b s = (0, s) := by unfold numR; rw [if_pos he]
  rw [hv];refine zQ 4 ?_;refine EvC.ret ⟨rx, _, _, _, rfl, leaveD_rw (rfl), ?_⟩;exact ⟨rfl, hH0.leaveRw1 hS2 hH⟩
 refine zQ 1 ?_;have he0 : s.e = 0 := by simpa using he
 have hv : numR b s = match b.drop s.at_ with
  | [] => (0, ⟨s.at_, 3⟩)
  | k :: rest =>
   if 8 < k.toNat then (0, ⟨s.at_, 4⟩)
   else if rest.length < k.toNat then (0, ⟨s.at_, 3⟩)
   else if (0 < k.toNat ∧ rest.head? = some 0) ∨ 9223372036854775808 ≤ valB 0 (rest.take k.toNat) then (0, ⟨s.at_, 4⟩)
   else ((valB 0 (rest.take k.toNat) : Nat), ⟨s.at_ + 1 + k.toNat, 0⟩) := by
  unfold numR; rw [if_neg (by simpa using he)]; cases List.drop s.at_ b <;> rfl
 have hdl : (b.drop s.at_).length = b.length - s.at_ := List.length_drop
 have hget : ∀ i, (byteCells b)[s.at_ + i]? = ((b.drop s.at_)[i]?).map fun c => [.int .u8 (c.toNat : Nat)] := fun i => by
  unfold byteCells; rw [List.getElem?_map, List.getElem?_drop]
 obtain ⟨R, hR⟩ : ∃ R, b.drop s.at_ = R := ⟨_, rfl⟩
 rw [hR] at hv hdl;simp only [hR] at hget;refine zQ 11 ?_;refine qn ?_ (hR := hH.rows at1);refine zQ 2 ?_;rw [hbc]
 cases R with
 | nil =>
  simp only [List.length_nil] at hdl;simp only at hv;rw [hv];have hc : decide (((s.at_ : Nat) : Int) ≥ ((b.length : Nat) : Int)) = true := by rw [decide_eq_true_eq]; omega
  refine qD rfl (by rw [hc]) ?_;refine zQ 5 ?_;refine qT hH at0 fun st hH => ?_;dsimp only [u2, u1, u3, u4, setMany, u5, u6, D.cells, Nat.reduceAdd, rdC] at hH;refine zQ 5 ?_;refine EvC.ret ⟨rx, _, _, _, rfl, leaveD_rw (rfl), ?_⟩;exact ⟨rfl, hH0.leaveRw1 hS2 hH⟩
 | cons c rest =>
 simp only [List.length_cons] at hdl;simp only at hv;have hc : decide (((s.at_ : Nat) : Int) ≥ ((b.length : Nat) : Int)) = false := by rw [decide_eq_false_iff_not]; omega
 refine qE rfl (by rw [hc]) ?_;refine zQ 1 ?_;have hr1 : (byteCells b)[s.at_]? = some [.int .u8 (c.toNat : Nat)] := hget 0;refine zQ 10 ?_;refine EvO.ridx rfl (ev rfl) (ev rfl) (hH.rows at1) rfl rfl hr1 (fun _ => (put_T rfl _)) (fun p32 hp32 => ?_);refine EvO.rload rfl (ev rfl) hp32 rfl (put_T rfl _) ?_;refine EvO.go (d := .int .i64 (c.toNat : Nat)) (st1 := _) rfl rfl (by exact cvi8_op c _) (put_T rfl _) ?_;refine zQ 2 ?_
 obtain ⟨kn, hkn⟩ : ∃ kn, c.toNat = kn := ⟨_, rfl⟩
 rw [hkn] at hv ⊢;refine zQ 6 ?_;refine zP (fun h8 => ?_) fun h8 => ?_
 ·rw [if_pos (by omega)] at hv;rw [hv];refine zQ 5 ?_;refine qT hH at0 fun st hH => ?_;dsimp only [u2, u1, u3, u4, setMany, u5, u6, D.cells, Nat.reduceAdd, rdC] at hH;refine zQ 5 ?_;refine EvC.ret ⟨rx, _, _, _, rfl, leaveD_rw (rfl), ?_⟩;exact ⟨rfl, hH0.leaveRw1 hS2 hH⟩
 rw [if_neg (by omega)] at hv;refine zQ 8 ?_;refine qn ?_ (hR := hH.rows at1);refine zQ 4 ?_;refine EvO.subZ (z := (((b.length : Nat) : Int) - (s.at_ : Nat))) rfl (ev rfl) (ev rfl) (by (try simp only [List.length_reverse, List.length_cons, List.length_nil, List.length_append, List.length_map, List.length_set]); rw [wrap_i64 (by omega) (by omega)] <;> omega) (put_T rfl _) ?_;refine EvO.subZ (z := (((b.length : Nat) : Int) - (s.at_ : Nat) - 1)) rfl (ev rfl) (ev rfl) (by (try simp only [List.length_reverse, List.length_cons, List.length_nil, List.length_append, List.length_map, List.length_set]); rw [wrap_i64 (by omega) (by omega)] <;> omega) (put_T rfl _) ?_;refine zQ 3 ?_
 by_cases hs : rest.length < kn
 ·rw [if_pos hs] at hv;rw [hv];have hc : decide ((((b.length : Nat) : Int) - (s.at_ : Nat) - 1) < (kn : Nat)) = true := by rw [decide_eq_true_eq]; omega
  refine qD rfl (by rw [hc]) ?_;refine zQ 5 ?_;refine qT hH at0 fun st hH => ?_;dsimp only [u2, u1, u3, u4, setMany, u5, u6, D.cells, Nat.reduceAdd, rdC] at hH;refine zQ 5 ?_;refine EvC.ret ⟨rx, _, _, _, rfl, leaveD_rw (rfl), ?_⟩;exact ⟨rfl, hH0.leaveRw1 hS2 hH⟩
 rw [if_neg hs] at hv;have hc : decide ((((b.length : Nat) : Int) - (s.at_ : Nat) - 1) < (kn : Nat)) = false := by rw [decide_eq_false_iff_not]; omega
 refine qE rfl (by rw [hc]) ?_;refine zQ 1 ?_
 obtain ⟨l, hl⟩ : ∃ l, rest.take kn = l := ⟨_, rfl⟩
 have hll : l.length = kn := by rw [← hl, List.length_take]; omega
 rw [hl] at hv
 have hli : ∀ i q, l[i]? = some q → (byteCells b)[s.at_ + 1 + i]? = some [.int .u8 (q.toNat : Nat)] := fun i q h => by
  rw [← hl, List.getElem?_take] at h;rw [Nat.add_assoc, hget]
  split at h
  ·rw [Nat.add_comm 1 i, List.getElem?_cons_succ, h]; rfl
  ·cases h
 have hbad : ∀ st : St, ((0 < kn ∧ rest.head? = some 0) ∨ 9223372036854775808 ≤ valB 0 l) → numR b s = (0, ⟨s.at_, 4⟩) := fun st h => by
  rw [hv, if_pos h]
 have hgood : ¬ ((0 < kn ∧ rest.head? = some 0) ∨ 9223372036854775808 ≤ valB 0 l) → ∀ st : St, Has N S2 st (.box k (.mem 0 false (rdC x s)) :: .lst x 1 (byteCells b) :: H) → True := fun _ _ _ => trivial;refine zQ 2 ?_;refine EvC.merge3 (fun fr st => ∃  (tmp : List (Nat × D)), fr = ⟨6, [.ptr k 0 0, ixF_Oc fr 1, ixF_Oc fr 2, .int .i64 (kn : Nat), ixF_Oc fr 4, ixF_Oc fr 5], tmp⟩ ∧ Has N S2 st (.box k (.mem 0 false (rdC x s)) :: .lst x 1 (byteCells b) :: H) ∧ (¬ ((0 < kn ∧ rest.head? = some 0) ∨ 9223372036854775808 ≤ valB 0 l))) ?_ ?_
 ·by_cases hK0 : kn = 0
  ·have hg2 : decide (((kn : Nat) : Int) > 0) = false := by rw [decide_eq_false_iff_not]; omega
   have hg19 : (((kn : Nat) : Int) == 8) = false := by rw [beq_eq_false_iff_ne]; omega
   have hl0 : l = [] := List.length_eq_zero_iff.1 (by omega);refine zQ 38 ?_;exact ⟨_, rfl, hH, (by rintro (⟨h, _⟩ | h); omega; rw [hl0] at h; simp [valB] at h)⟩
  ·have hg2 : decide (((kn : Nat) : Int) > 0) = true := by rw [decide_eq_true_eq]; omega
   obtain ⟨z, rest2, rfl⟩ : ∃ z r, rest = z :: r := by
    cases rest with
    | nil => simp only [List.length_nil] at hs; omega
    | cons z r => exact ⟨z, r, rfl⟩
   obtain ⟨l2, rfl⟩ : ∃ l2, l = z :: l2 := by
    cases kn with
    | zero => exact absurd rfl hK0
    | succ kn => exact ⟨_, by rw [← hl]; rfl⟩
   have hr3 : (byteCells b)[s.at_ + 1]? = some [.int .u8 (z.toNat : Nat)] := hget 1
   have hz : (((z.toNat : Nat) : Int) == 0) = decide (z = 0) := by
    by_cases h : z = 0
    ·subst h; rfl
    ·have : z.toNat ≠ 0 := fun e => h (by rw [← UInt8.toNat_inj]; exact e);rw [decide_eq_false h, beq_eq_false_iff_ne]; omega
   by_cases hz0 : z = 0
   ·have hg16 : (((z.toNat : Nat) : Int) == 0) = true := by rw [hz, decide_eq_true hz0]
    rw [hbad S2 (.inl ⟨by omega, by rw [hz0]; rfl⟩)];refine zQ 12 ?_;refine EvO.addZ (z := ((s.at_ + 1 : Nat) : Int)) (wantD_is rfl rfl rfl hg2) (ev rfl) (ev rfl) (by (try simp only [List.length_reverse, List.length_cons, List.length_nil, List.length_append, List.length_map, List.length_set]); rw [wrap_i64 (by omega) (by omega)] <;> omega) (put_T rfl _) ?_;refine EvO.ridx (wantD_is rfl rfl rfl hg2) (ev rfl) (ev rfl) (hH.rows at1) rfl rfl hr3 (fun _ => (put_T rfl _)) (fun p68 hp68 => ?_);refine EvO.rload (wantD_is rfl rfl rfl hg2) (ev rfl) hp68 rfl (put_T rfl _) ?_;refine zQ 27 ?_;refine qT hH at0 fun st hH => ?_;dsimp only [u2, u1, u3, u4, setMany, u5, u6, D.cells, Nat.reduceAdd, rdC] at hH;refine zQ 5 ?_;refine EvC.ret ⟨rx, _, _, _, rfl, leaveD_rw (rfl), ?_⟩;exact ⟨rfl, hH0.leaveRw1 hS2 hH⟩
   have hg16 : (((z.toNat : Nat) : Int) == 0) = false := by rw [hz, decide_eq_false hz0]
   have hzh : ¬ (0 < kn ∧ (z :: rest2).head? = some 0) := fun h => hz0 (Option.some.inj h.2)
   by_cases hK8 : kn = 8
   ·have hg19 : (((kn : Nat) : Int) == 8) = true := by rw [beq_iff_eq]; omega
    have hv8 := valB_8 (z := z) (l := l2) (by simp only [List.length_cons] at hll; omega)
    by_cases hbig : 127 < z.toNat
    ·have hc2 : decide (((z.toNat : Nat) : Int) > 127) = true := by rw [decide_eq_true_eq]; omega
     rw [hbad S2 (.inr (hv8.2 hbig))];refine zQ 12 ?_;refine EvO.addZ (z := ((s.at_ + 1 : Nat) : Int)) (wantD_is rfl rfl rfl hg2) (ev rfl) (ev rfl) (by (try simp only [List.length_reverse, List.length_cons, List.length_nil, List.length_append, List.length_map, List.length_set]); rw [wrap_i64 (by omega) (by omega)] <;> omega) (put_T rfl _) ?_;refine EvO.ridx (wantD_is rfl rfl rfl hg2) (ev rfl) (ev rfl) (hH.rows at1) rfl rfl hr3 (fun _ => (put_T rfl _)) (fun p68 hp68 => ?_);refine EvO.rload (wantD_is rfl rfl rfl hg2) (ev rfl) hp68 rfl (put_T rfl _) ?_;refine zQ 14 ?_;refine EvO.addZ (z := ((s.at_ + 1 : Nat) : Int)) (wantD_is rfl rfl rfl hg19) (ev rfl) (ev rfl) (by (try simp only [List.length_reverse, List.length_cons, List.length_nil, List.length_append, List.length_map, List.length_set]); rw [wrap_i64 (by omega) (by omega)] <;> omega) (put_T rfl _) ?_;refine EvO.ridx (wantD_is rfl rfl rfl hg19) (ev rfl) (ev rfl) (hH.rows at1) rfl rfl hr3 (fun _ => (put_T rfl _)) (fun p85 hp85 => ?_);refine EvO.rload (wantD_is rfl rfl rfl hg19) (ev rfl) hp85 rfl (put_T rfl _) ?_;refine zQ 1 ?_;refine EvO.pickT (wantD_is rfl rfl rfl hg16) rfl hg19 (put_T rfl _) ?_;refine zQ 2 ?_;refine qD rfl (by rw [hc2]) ?_;refine zQ 5 ?_;refine qT hH at0 fun st hH => ?_;dsimp only [u2, u1, u3, u4, setMany, u5, u6, D.cells, Nat.reduceAdd, rdC] at hH;refine zQ 5 ?_;refine EvC.ret ⟨rx, _, _, _, rfl, leaveD_rw (rfl), ?_⟩;exact ⟨rfl, hH0.leaveRw1 hS2 hH⟩
    ·have hc2 : decide (((z.toNat : Nat) : Int) > 127) = false := by rw [decide_eq_false_iff_not]; omega
     refine zQ 12 ?_;refine EvO.addZ (z := ((s.at_ + 1 : Nat) : Int)) (wantD_is rfl rfl rfl hg2) (ev rfl) (ev rfl) (by (try simp only [List.length_reverse, List.length_cons, List.length_nil, List.length_append, List.length_map, List.length_set]); rw [wrap_i64 (by omega) (by omega)] <;> omega) (put_T rfl _) ?_;refine EvO.ridx (wantD_is rfl rfl rfl hg2) (ev rfl) (ev rfl) (hH.rows at1) rfl rfl hr3 (fun _ => (put_T rfl _)) (fun p68 hp68 => ?_);refine EvO.rload (wantD_is rfl rfl rfl hg2) (ev rfl) hp68 rfl (put_T rfl _) ?_;refine zQ 14 ?_;refine EvO.addZ (z := ((s.at_ + 1 : Nat) : Int)) (wantD_is rfl rfl rfl hg19) (ev rfl) (ev rfl) (by (try simp only [List.length_reverse, List.length_cons, List.length_nil, List.length_append, List.length_map, List.length_set]); rw [wrap_i64 (by omega) (by omega)] <;> omega) (put_T rfl _) ?_;refine EvO.ridx (wantD_is rfl rfl rfl hg19) (ev rfl) (ev rfl) (hH.rows at1) rfl rfl hr3 (fun _ => (put_T rfl _)) (fun p85 hp85 => ?_);refine EvO.rload (wantD_is rfl rfl rfl hg19) (ev rfl) hp85 rfl (put_T rfl _) ?_;refine zQ 1 ?_;refine EvO.pickT (wantD_is rfl rfl rfl hg16) rfl hg19 (put_T rfl _) ?_;refine zQ 2 ?_;refine qE rfl (by rw [hc2]) ?_;refine zQ 1 ?_;exact ⟨_, rfl, hH, (by rintro (h | h); exact hzh h; exact hbig (hv8.1 h))⟩
   ·have hg19 : (((kn : Nat) : Int) == 8) = false := by rw [beq_eq_false_iff_ne]; omega
    have hv7 := valB_7 (l := z :: l2) (by omega);refine zQ 12 ?_;refine EvO.addZ (z := ((s.at_ + 1 : Nat) : Int)) (wantD_is rfl rfl rfl hg2) (ev rfl) (ev rfl) (by (try simp only [List.length_reverse, List.length_cons, List.length_nil, List.length_append, List.length_map, List.length_set]); rw [wrap_i64 (by omega) (by omega)] <;> omega) (put_T rfl _) ?_;refine EvO.ridx (wantD_is rfl rfl rfl hg2) (ev rfl) (ev rfl) (hH.rows at1) rfl rfl hr3 (fun _ => (put_T rfl _)) (fun p68 hp68 => ?_);refine EvO.rload (wantD_is rfl rfl rfl hg2) (ev rfl) hp68 rfl (put_T rfl _) ?_;refine zQ 18 ?_;refine EvO.pickF (wantD_is rfl rfl rfl hg16) rfl hg19 (put_T rfl _) ?_;refine zQ 4 ?_;exact ⟨_, rfl, hH, (by rintro (h | h); exact hzh h; omega)⟩
 ·rintro fr st ⟨tmp, hfr, hH, hno⟩;rw [hfr];clear hfr;generalize ixF_Oc fr = ee;clear fr;rw [if_neg hno] at hv;rw [hv];have hV : valB 0 l < 9223372036854775808 := Nat.lt_of_not_le fun h => hno (.inr h);refine zQ 10 ?_;refine EvC.loop (fun mm fr st => ∃ (i u : Nat), fr.clean = ⟨6, [.ptr k 0 0, ixF_Oc fr 1, ixF_Oc fr 2, .int .i64 (kn : Nat), .int .i64 (u : Nat), .int .i64 (i : Nat)], []⟩ ∧ Has N S2 st (.box k (.mem 0 false (rdC x s)) :: .lst x 1 (byteCells b) :: H) ∧ (i + mm = kn) ∧ (valB u (l.drop i) = valB 0 l)) (kn) ?_ ?_
  ·exact ⟨0, 0, rfl, hH, by omega, rfl⟩
  rintro mm fr st ⟨i, u, hfr, hH, hi, hu⟩;rw [hfr];clear hfr;generalize ixF_Oc fr = ee;clear fr;refine zQ 7 ?_
  by_cases hlt : i < l.length
  ·have hc2 : decide (((i : Nat) : Int) < ((kn : Nat) : Int)) = true := by rw [decide_eq_true_eq]; omega
   refine qD rfl (by rw [hc2]) ?_;refine zQ 1 ?_
   obtain ⟨q, hq⟩ : ∃ q, l[i]? = some q := ⟨l[i]'hlt, List.getElem?_eq_getElem _⟩
   have hr2 := hli i q hq
   have hdr : l.drop i = q :: l.drop (i + 1) := by
    have := List.drop_eq_getElem_cons (l := l) (i := i) hlt;rw [this]; congr 1;rw [List.getElem?_eq_getElem hlt] at hq;exact Option.some.inj hq
   rw [hdr] at hu;have hu : valB (u * 256 + q.toNat) (l.drop (i + 1)) = valB 0 l := hu;have hub := valB_le (l.drop (i + 1)) (u * 256 + q.toNat);have hql : q.toNat < 256 := q.toNat_lt;refine zQ 4 ?_;refine EvO.go (d := .int .i64 ((u * 256 : Nat) : Int)) (st1 := _) rfl rfl (by exact shli_op u (by omega) _) (put_T rfl _) ?_;refine zQ 8 ?_;refine EvO.addZ (z := ((s.at_ + 1 : Nat) : Int)) rfl (ev rfl) (ev rfl) (by (try simp only [List.length_reverse, List.length_cons, List.length_nil, List.length_append, List.length_map, List.length_set]); rw [wrap_i64 (by omega) (by omega)] <;> omega) (put_T rfl _) ?_;refine qm ?_;refine EvO.addZ (z := ((s.at_ + 1 + i : Nat) : Int)) rfl (ev rfl) (ev rfl) (by (try simp only [List.length_reverse, List.length_cons, List.length_nil, List.length_append, List.length_map, List.length_set]); rw [wrap_i64 (by omega) (by omega)] <;> omega) (put_T rfl _) ?_;refine EvO.ridx rfl (ev rfl) (ev rfl) (hH.rows at1) rfl rfl hr2 (fun _ => (put_T rfl _)) (fun p111 hp111 => ?_);refine EvO.rload rfl (ev rfl) hp111 rfl (put_T rfl _) ?_;refine EvO.go (d := .int .i64 (q.toNat : Nat)) (st1 := _) rfl rfl (by exact cvi8_op q _) (put_T rfl _) ?_;refine EvO.go (d := .int .i64 ((u * 256 + q.toNat : Nat) : Int)) (st1 := _) rfl rfl (by exact ori_op u q.toNat hql (by omega) _) (put_T rfl _) ?_;refine zQ 7 ?_;exact ⟨mm - 1, by omega, ⟨i + 1, u * 256 + q.toNat, rfl, hH, by omega, hu⟩⟩
  ·have hc2 : decide (((i : Nat) : Int) < ((kn : Nat) : Int)) = false := by rw [decide_eq_false_iff_not]; omega
   refine qE rfl (by rw [hc2]) ?_;refine zQ 1 ?_;have hil : i = l.length := by omega
   rw [hil, List.drop_length] at hu;have hu : u = valB 0 l := hu;rw [← hu];refine zQ 7 ?_;refine EvO.addZ (z := ((s.at_ + 1 : Nat) : Int)) rfl (ev rfl) (ev rfl) (by (try simp only [List.length_reverse, List.length_cons, List.length_nil, List.length_append, List.length_map, List.length_set]); rw [wrap_i64 (by omega) (by omega)] <;> omega) (put_T rfl _) ?_;refine qm ?_;refine EvO.addZ (z := ((s.at_ + 1 + kn : Nat) : Int)) rfl (ev rfl) (ev rfl) (by (try simp only [List.length_reverse, List.length_cons, List.length_nil, List.length_append, List.length_map, List.length_set]); rw [wrap_i64 (by omega) (by omega)] <;> omega) (put_T rfl _) ?_;refine zQ 2 ?_;refine qT hH at0 fun st hH => ?_;dsimp only [u2, u1, u3, u4, setMany, u5, u6, D.cells, Nat.reduceAdd, rdC] at hH;refine zQ 6 ?_;refine EvC.ret ⟨rx, _, _, _, rfl, leaveD_rw (rfl), ?_⟩;rw [he0] at hH;exact ⟨rfl, hH0.leaveRw1 hS2 hH⟩
theorem hUpto_ev {N k : Nat} {S s0 : St} {H : List Ent} {x : D} {b : List UInt8} {s : Rdr} (hbl : b.length ≤ 1099511627776) (hok : s.at_ ≤ b.length) (most : Int) (hH : Has N S s0 (.box k (.mem 0 false (rdC x s)) :: .lst x 1 (byteCells b) :: H)) :
  ∃ d st', Ev pv 131 [.ptr k 0 0, .int .i64 most] s0 d st' ∧ d = .int .i64 (uptoR b most s).1 ∧ Has N S st' (.box k (.mem 0 false (rdC x (uptoR b most s).2)) :: .lst x 1 (byteCells b) :: H) := by
 refine Ev.mkE rfl fi131 rfl rfl rfl ?_;refine zE ?_;have hH0 := hH;have hH := hH.enterRw;have hS2 : (enterSt .rw s0).bs = s0.bs := rfl;generalize enterSt .rw s0 = S2 at *;refine zQ 15 ?_;obtain ⟨_, st, hev, rfl, hH⟩ := hNum_ev hbl hok hH;refine qv hev ?_;refine zQ 2 ?_;unfold uptoR;generalize numR b s = R at *;obtain ⟨n, s1⟩ := R;dsimp only at hH ⊢;refine zQ 2 ?_;refine EvC.cutT 22 (.bool (s1.e == 0 && decide (n > most))) [] ?_ (fun ff tmp htmp => ?_)
 ·refine zQ 6 ?_;refine EvO.two 18 rfl (fun hg5 => ?_) (fun hg5 => ?_)
  ·refine zQ 4 ?_;refine EvO.nil (leafT ?_ ?_)
   ·dsimp only [setW, List.foldl, nth, u2, u1]
    all_goals (first | rfl | simp)
   ·refine zF ?_
    all_goals (simp [hg5]; done)
  ·refine zQ 4 ?_;refine EvO.nil (leafT ?_ ?_)
   ·dsimp only [setW, List.foldl, nth, u2, u1]
    all_goals (first | rfl | simp)
   ·refine zF ?_
    all_goals (simp [hg5]; done)
 dsimp only [setW, List.foldl, nth, u2, u1];refine qc (fun hc => ?_) (fun hc => ?_) <;> try simp only [cs] at hc
 ·have hc : s1.e = 0 ∧ n > most := by simpa using hc
  rw [if_pos hc];refine zQ 5 ?_;refine qT hH at0 fun st hH => ?_;dsimp only [u2, u1, u3, u4, setMany, u5, u6, D.cells, Nat.reduceAdd, rdC] at hH;refine zQ 7 ?_;refine qT hH at0 fun st hH => ?_;dsimp only [u2, u1, u3, u4, setMany, u5, u6, D.cells, Nat.reduceAdd, rdC] at hH;refine zQ 5 ?_;refine EvC.ret ⟨rx, _, _, _, rfl, leaveD_rw (rfl), ?_⟩;exact ⟨rfl, hH0.leaveRw1 hS2 hH⟩
 ·have hc : ¬ (s1.e = 0 ∧ n > most) := by
   rintro ⟨h1, h2⟩;rw [h1, decide_eq_true h2] at hc; simp at hc
  rw [if_neg hc];refine zQ 6 ?_;refine EvC.ret ⟨rx, _, _, _, rfl, leaveD_rw (rfl), ?_⟩;exact ⟨rfl, hH0.leaveRw1 hS2 hH⟩
theorem hText_ev {N k : Nat} {S s0 : St} {H : List Ent} {x : D} {b : List UInt8} {s : Rdr} (hbl : b.length ≤ 1099511627776) (hok : s.at_ ≤ b.length) (most : Int) (hH : Has N S s0 (.box k (.mem 0 false (rdC x s)) :: .lst x 1 (byteCells b) :: H)) :
  ∃ d st', Ev pv 100 [.ptr k 0 0, .int .i64 most] s0 d st' ∧ d = .str (textR b most s).1 ∧ Has N S st' (.box k (.mem 0 false (rdC x (textR b most s).2)) :: .lst x 1 (byteCells b) :: H) := by
 obtain ⟨o1, o2, o3, o4, o5⟩ := numR_ok (b := b) (s := s) hok
 have hu : (uptoR b most s).2.at_ ≤ b.length ∧ 0 ≤ (uptoR b most s).1 ∧ (uptoR b most s).1 < 9223372036854775808 := by
  unfold uptoR
  split
  ·exact ⟨hok, by simp, by simp⟩
  ·exact ⟨o1, o3, o4⟩
 have hbc := byteCells_len b;refine Ev.mkE rfl fi100 rfl rfl rfl ?_;refine zE ?_;have hH0 := hH;have hH := hH.enterRw;have hS2 : (enterSt .rw s0).bs = s0.bs := rfl;generalize enterSt .rw s0 = S2 at *;refine zQ 16 ?_;obtain ⟨_, st, hev, rfl, hH⟩ := hUpto_ev hbl hok most hH;refine qv hev ?_;refine zQ 2 ?_;unfold textR;generalize uptoR b most s = R at *;obtain ⟨n, s1⟩ := R;dsimp only at hH hu ⊢;obtain ⟨u1, u2, u3⟩ := hu
 obtain ⟨m, rfl⟩ : ∃ m : Nat, n = (m : Nat) := ⟨n.toNat, by omega⟩
 by_cases he : s1.e = 0
 ·rw [if_neg (by simpa using he)];have hg5 : (s1.e == 0) = true := by simpa using he
  refine zQ 14 ?_;refine qn ?_ (hR := hH.rows at1) (hg := wi hg5);refine zQ 4 ?_;refine EvO.subZ (z := (((b.length : Nat) : Int) - (s1.at_ : Nat))) (wantD_is rfl rfl rfl hg5) (ev rfl) (ev rfl) (by (try simp only [List.length_reverse, List.length_cons, List.length_nil, List.length_append, List.length_map, List.length_set]); rw [wrap_i64 (by omega) (by omega)] <;> omega) (put_T rfl _) ?_;refine zQ 3 ?_
  by_cases hlt : ((b.length : Nat) : Int) - (s1.at_ : Nat) < (m : Nat)
  ·rw [if_pos hlt];have hc : decide (((m : Nat) : Int) > ((b.length : Nat) : Int) - (s1.at_ : Nat)) = true := by rw [decide_eq_true_eq]; omega
   refine qD rfl (by rw [hc]) ?_;refine zQ 5 ?_;refine qT hH at0 fun st hH => ?_;dsimp only [u2, u1, u3, u4, setMany, u5, u6, D.cells, Nat.reduceAdd, rdC] at hH;refine zQ 6 ?_;refine qT hH at0 fun st hH => ?_;dsimp only [u2, u1, u3, u4, setMany, u5, u6, D.cells, Nat.reduceAdd, rdC] at hH;refine zQ 15 ?_;refine EvC.ret ⟨rx, _, _, _, rfl, leaveD_rw (rfl), ?_⟩;exact ⟨rfl, hH0.leaveRw1 hS2 hH⟩
  ·rw [if_neg hlt];have hc : decide (((m : Nat) : Int) > ((b.length : Nat) : Int) - (s1.at_ : Nat)) = false := by rw [decide_eq_false_iff_not]; omega
   refine qE rfl (by rw [hc]) ?_;refine zQ 10 ?_;refine qE rfl (by simp [he]) ?_;refine zQ 1 ?_
   have hpt : ∀ {st : St} {e : Ent} {H : List Ent}, Has N S2 st (e :: .lst x 1 (byteCells b) :: H) → V.Rows st 1 (prtD x s1.at_ (s1.at_ + m)) (byteCells ((b.drop s1.at_).take m)) := fun h => by
    have := own_part h (l := s1.at_) (r := s1.at_ + m) (by omega)
    rwa [List.drop_take, Nat.add_sub_cancel_left] at this
   have hcv := conv_strR (hpt hH);refine zQ 15 ?_;refine EvO.addZ (z := ((s1.at_ + m : Nat) : Int)) rfl (ev rfl) (ev rfl) (by (try simp only [List.length_reverse, List.length_cons, List.length_nil, List.length_append, List.length_map, List.length_set]); rw [wrap_i64 (by omega) (by omega)] <;> omega) (put_T rfl _) ?_;refine EvO.prt rfl (ev rfl) (hH.rows at1) rfl rfl (bounds_both (m := s1.at_) (n := s1.at_ + m) (by rw [byteCells_len]; omega)) ⟨by omega, by rw [byteCells_len]; omega⟩ (put_T rfl _) ?_;refine EvO.go (d := .str ((b.drop s1.at_).take m)) (st1 := _) rfl rfl (by exact hcv) (put_T rfl _) ?_;refine zQ 10 ?_;refine EvO.addZ (z := ((s1.at_ + m : Nat) : Int)) rfl (ev rfl) (ev rfl) (by (try simp only [List.length_reverse, List.length_cons, List.length_nil, List.length_append, List.length_map, List.length_set]); rw [wrap_i64 (by omega) (by omega)] <;> omega) (put_T rfl _) ?_;refine zQ 2 ?_;refine qT hH at0 fun st hH => ?_;dsimp only [u2, u1, u3, u4, setMany, u5, u6, D.cells, Nat.reduceAdd, rdC] at hH;refine zQ 6 ?_;refine EvC.ret ⟨rx, _, _, _, rfl, leaveD_rw (rfl), ?_⟩;rw [he] at hH;exact ⟨rfl, hH0.leaveRw1 hS2 hH⟩
 ·rw [if_pos he];have hg5 : (s1.e == 0) = false := by simpa using he
  refine zQ 34 ?_;refine qD rfl (by simp [he]) ?_;refine zQ 4 ?_;refine EvC.ret ⟨rx, _, _, _, rfl, leaveD_rw (rfl), ?_⟩;exact ⟨rfl, hH0.leaveRw1 hS2 hH⟩
theorem hRead_ev {s0 : St} {x : D} {b : List UInt8} (hF : s0.flr ≤ s0.bs.length) (hro : s0.ro ≤ s0.bs.length) (hx : V.Rows s0 1 x (byteCells b)) (hl : b.length ≤ 68719476736) :
  ∃ d st', Ev pv 36 [x] s0 d st' ∧ ∃ k y, d = .ptr k 0 0 ∧ Has s0.bs.length s0 st' [.box k (.mem 0 false (rdC y ⟨0, 0⟩)), .lst y 1 (byteCells b)] := by
 have hbc := byteCells_len b;refine Ev.mkE rfl fi36 rfl rfl rfl ?_;refine zE ?_;have hSb : (enterSt .nw s0).bs = s0.bs := rfl;have hF : (enterSt .nw s0).flr ≤ s0.bs.length := hF;have hH : Has s0.bs.length (enterSt .nw s0) (enterSt .nw s0) [] := Has.start (Nat.le_refl _) (Nat.le_refl _);generalize enterSt .nw s0 = S at *;have hx := Arg.of hx hSb;refine zQ 6 ?_;refine EvO.hlist0 (s := 1) hH rfl rfl rfl rfl rfl (fun _ => (put_T rfl _)) (fun k3 st hk3 hH => ?_);refine qm ?_;refine EvO.happendB (s := 1) hH rfl (ev rfl) (ev rfl) (by exact at0) (by exact Arg.rows (by assumption) hH) rfl rfl rfl rfl rfl rfl rfl ⟨(Nat.le_of_ble_eq_true rfl), (Nat.le_of_ble_eq_true rfl)⟩ (fun _ => (put_T rfl _)) rfl (by simp only [List.length_nil] <;> omega) (by exact .inl hF) (fun x5 st hH => ?_);dsimp only [u2, u1, u3, u4, setMany, u5, u6, D.cells, Nat.reduceAdd, rdC] at hH;refine EvO.ones (qs := [(0, _)]) rfl rfl rfl rfl ⟨rfl, (ev rfl), (by exact hH.ocells (by exact at0)), trivial⟩ (by intro q hq; simp only [List.mem_cons, List.not_mem_nil, or_false] at hq; rcases hq with rfl <;> exact ⟨rfl, by exact Nat.le_of_ble_eq_true rfl⟩) (by show List.foldl _ [_, _, _] _ = _; dsimp only [List.foldl_cons, List.foldl_nil, u2, u1] <;> rfl) (put_T rfl _) ?_;refine qb hH fun k7 st hk7 hH => ?_;refine zQ 2 ?_;refine EvC.ret ⟨rx, _, _, _, rfl, rfl, ?_⟩;exact ⟨_, _, rfl, (hH.take 2).leaveNw hSb hro⟩
end Go.Proofs.YtecjacicdpejaaaGreat
namespace Go.Proofs.YtecjacicdpejaaaGreat
open Go.V Go
theorem has_hstoreK {N : Nat} {S st : St} {H : List Ent} {P : Pv} {ops : Array Oper} {rest : List Oper} {fr : Fr} {Q : Fr → St → Prop} {ty : TypeId} {pp : String} {a : Array Edge} {g : Option (Nat × Bool)} {j k ver off : Nat} {ar : Bool} {c cs : List D} {v : D} {t : TypeId} {ao vo : Operand} (hH : Has N S st H) (hg : wantD ops fr ⟨none, .store t ao vo, ty, pp, a, g⟩ = some true) (ha : fr.ev ao = .ptr k ver off) (hv : fr.ev vo = v) (hcs : v.cells? = some cs) (hs : szOf P t = some cs.length) (hj : H[j]? = some (.box k (.mem ver ar c))) (hl : off + cs.length ≤ c.length) (hw : S.flr ≤ k)
  (h : ∀ st', Has N S st' (H.set j (.box k (.mem ver ar (setMany c off cs)))) → EvO P ops rest fr st' Q) : EvO P ops (⟨none, .store t ao vo, ty, pp, a, g⟩ :: rest) fr st Q := by
 have h1 := hH.ex.flr;have h2 := hH.ex.ro;have h3 := hH.hro;have h4 := (hH.ge hj).1;refine EvO.N hg rfl (d := .tup []) (st1 := ⟨st.bs.set k (.mem ver ar (setMany c off cs)), st.flr, st.ro⟩) ?_ (h _ (hH.setBox (ver := ver) hj));simp only [opD, ha, hv, storeD, hcs, hs, if_pos trivial];rw [wr_own (hH.at hj) hl (canW_own (N := k) (Nat.le_refl _) (by omega) (by omega)), setMany_eq _ _ _ hl]; rfl
end Go.Proofs.YtecjacicdpejaaaGreat
namespace Go.Proofs.YtecjacicdpejaaaGreat
open Go.V Go
theorem textR_ok {b : List UInt8} {m : Int} {s : Rdr} (h : s.at_ ≤ b.length) : (textR b m s).2.at_ ≤ b.length ∧ ((textR b m s).1.length : Int) ≤ max m 0 := by
 obtain ⟨u1, u2, u3, u4⟩ := uptoR_ok (m := m) h;unfold textR
 split
 ·exact ⟨u1, by simp; omega⟩
 ·split
  ·exact ⟨h, by simp; omega⟩
  ·rename_i h1 h2;have h1 := u4 (by simpa using h1);refine ⟨?_, ?_⟩
   ·show (uptoR b m s).2.at_ + (uptoR b m s).1.toNat ≤ _; omega
   ·rw [List.length_take]; omega
end Go.Proofs.YtecjacicdpejaaaGreat
namespace Go.Proofs.YtecjacicdpejaaaGreat
open Go.V Go
def ixF_Ea (fr : Go.V.Fr) (k : Nat) : Go.V.D := Go.V.nth .junk fr.loc k
structure Pat where
 nm : List UInt8
 tx : List UInt8
def patC (p : Pat) : List D := [.str p.nm, .str p.tx]
def Pat.fit (p : Pat) : Prop := p.nm.length ≤ 1048576 ∧ p.tx.length ≤ 1048576
def patB (p : Pat) : List UInt8 := textB p.nm ++ textB p.tx
def setB (l : List Pat) (c : List UInt8) : List UInt8 := numB (l.length : Nat) ++ ((l.map patB).flatten ++ textB c)
theorem textB_le (t : List UInt8) : (textB t).length ≤ 9 + t.length := by unfold textB; have := numB_le (t.length : Nat); rw [List.length_append]; omega
theorem patB_le {p : Pat} (h : p.fit) : (patB p).length ≤ 2097170 := by
 unfold patB;have := textB_le p.nm; have := textB_le p.tx; have := h.1; have := h.2;rw [List.length_append]; omega
theorem rows_cellsE {st : St} {s : Nat} {x : D} {es : List (List D)} (h : V.Rows st s x es) : x.cells? = some [x] := by cases h <;> rfl
theorem pat_get {l : List Pat} {i : Nat} {p : Pat} (h : l[i]? = some p) : (l.map patC)[i]? = some (patC p) := by rw [List.getElem?_map, h]; rfl
theorem wPat_ev {s0 : St} {x : D} {b : List UInt8} {p : Pat} (hx : V.Rows s0 1 x (byteCells b)) (hl : b.length ≤ 40000000000) (hp : p.fit) :
  Ev pv 128 [x, .agg (patC p)] s0 (bytesV (b ++ patB p)) s0 := by
 have h1 := textB_le p.nm;have h2 := hp.1;have h3 : b ++ patB p = (b ++ textB p.nm) ++ textB p.tx := by unfold patB; rw [List.append_assoc]
 rw [h3];refine Ev.mk1 rfl fi128 rfl rfl rfl ?_;refine zE ?_;obtain ⟨hSb, hF, hH⟩ := ri s0;generalize enterSt .ro s0 = S at *;have hx := Arg.of hx hSb;refine zQ 2 ?_;refine qb hH fun k3 st hk3 hH => ?_;dsimp only [u2, u1, u3, u4, setMany, u5, u6, D.cells, Nat.reduceAdd, patC] at hH;refine zQ 7 ?_;refine qv (wText_ev (hx.rows hH) (by omega) hp.1) ?_;refine zQ 2 ?_;refine qv (wText_ev (bytesV_rows _ _) (by rw [List.length_append]; omega) hp.2) ?_;refine zQ 2 ?_;refine EvC.ret ⟨rx, _, rfl, rl hSb hH (rfl)⟩
theorem wListP_ev {s0 : St} {x y : D} {b : List UInt8} {l : List Pat} (hx : V.Rows s0 1 x (byteCells b)) (hy : V.Rows s0 2 y (l.map patC)) (hl : b.length ≤ 30000000000) (hll : l.length ≤ 1000) (hv2 : ∀ p ∈ l, p.fit) :
  Ev pv 127 [x, y, .fn 128 []] s0 (bytesV (b ++ (numB (l.length : Nat) ++ (l.map patB).flatten))) s0 := by
 have hn1 := numB_le (l.length : Nat);refine Ev.mk1 rfl fi127 rfl rfl rfl ?_;refine zE ?_;obtain ⟨hSb, hF, hH⟩ := ri s0;generalize enterSt .ro s0 = S at *;have hx := Arg.of hx hSb;have hy := Arg.of hy hSb;refine zQ 8 ?_;refine qn ?_;simp only [List.length_map];obtain ⟨hf1, hf2⟩ := hH.fine hF;obtain ⟨d13, st, hev, ho⟩ := wNum_ev (x := x) (b := b) hf1 hf2 (hx.rows hH) (by omega) (l.length : Nat) (by omega);have hH := hH.ovr ho
 (try dsimp only [u3, u4] at hH)
 refine qv hev ?_;refine zQ 6 ?_;refine qn ?_;simp only [List.length_map];refine zQ 3 ?_;refine EvC.loop (fun mm fr st => ∃ (i : Nat) (o : D) (E : List Ent), fr.clean = ⟨17, [ixF_Ea fr 0, ixF_Ea fr 1, .fn 128 [], ixF_Ea fr 3, ixF_Ea fr 4, ixF_Ea fr 5, ixF_Ea fr 6, o, ixF_Ea fr 8, ixF_Ea fr 9, ixF_Ea fr 10, ixF_Ea fr 11, ixF_Ea fr 12, ixF_Ea fr 13, y, .int .i64 (l.length : Nat), .int .i64 (i : Nat)], []⟩ ∧ Has s0.bs.length S st (E) ∧ (i + mm = l.length) ∧ (E = [.lst o 1 (byteCells (b ++ (numB (l.length : Nat) ++ ((l.take i).map patB).flatten)))] ∨ o = bytesV (b ++ (numB (l.length : Nat) ++ ((l.take i).map patB).flatten)))) (l.length) ?_ ?_
 ·exact ⟨0, d13, _, rfl, (by simpa using hH), by omega, .inl rfl⟩
 rintro mm fr st ⟨i, o, E, hfr, hH, hi, hE⟩;rw [hfr];clear hfr;generalize ixF_Ea fr = ee;clear fr;refine zQ 5 ?_;refine zP (fun hlt => ?_) fun hlt => ?_
 ·refine zQ 1 ?_
  obtain ⟨v, hv⟩ : ∃ v, l[i]? = some v := ⟨l[i]'(by omega), List.getElem?_eq_getElem _⟩
  have hvm := List.mem_of_getElem? hv;have hr1 := pat_get hv;have hsn := fl_snoc (f := patB) hv;have hlt2 := fl_le (f := patB) (n := 2097170) (l := l.take i) (fun x hx => patB_le (hv2 x (List.mem_of_mem_take hx)));have htl : (l.take i).length = i := by rw [List.length_take]; omega
  have hpl : (b ++ (numB (l.length : Nat) ++ ((l.take i).map patB).flatten)).length ≤ 40000000000 := by simp only [List.length_append]; omega
  have hsn2 : b ++ (numB (l.length : Nat) ++ ((l.take (i + 1)).map patB).flatten) = (b ++ (numB (l.length : Nat) ++ ((l.take i).map patB).flatten)) ++ patB v := by rw [hsn]; simp only [List.append_assoc]
  generalize hP : b ++ (numB (l.length : Nat) ++ ((l.take i).map patB).flatten) = P at *
  have hrows : ∀ {st : St}, Has s0.bs.length S st E → V.Rows st 1 o (byteCells P) := fun h => by
   rcases hE with rfl | rfl
   ·exact h.rows at0
   ·exact bytesV_rows _ _
  refine zQ 4 ?_;refine qr fun p18 hp18 => ?_;refine EvO.rloadS rfl (ev rfl) (by assumption) rfl (put_T rfl _) ?_;refine qa hH fun k9 st hk9 hH => ?_;refine qS hH at0 fun st hH => ?_;dsimp only [u2, u1, u3, u4, setMany, u5, u6, D.cells, Nat.reduceAdd, patC] at hH;refine zQ 4 ?_;refine EvO.hloadS (m := 2) hH rfl (ev rfl) (by exact at0) (by dsimp only [List.drop_succ_cons, List.drop_zero, List.take_succ_cons, List.take_zero, patC] <;> rfl) rfl rfl (put_T rfl _) ?_;refine qv (wPat_ev (hrows (hH.drop 1)) hpl (hv2 v hvm)) ?_;refine zQ 6 ?_;exact ⟨mm - 1, by omega, ⟨i + 1, bytesV (P ++ patB v), [], rfl, (hH.take 0), by omega, .inr (by rw [hsn2])⟩⟩
 ·refine zQ 1 ?_;rw [List.take_of_length_le (by omega)] at hE;refine zQ 5 ?_;refine EvC.ret ⟨rx, _, rfl, rl hSb hH ?_⟩
  rcases hE with rfl | rfl
  ·exact hH.freezeL at0 (byteCells_plain _) (by decide)
  ·rfl
theorem putSet_ev {s0 : St} {x y : D} {b c : List UInt8} {l : List Pat} (hx : V.Rows s0 1 x (byteCells b)) (hy : V.Rows s0 2 y (l.map patC)) (hl : b.length ≤ 30000000000) (hll : l.length ≤ 1000) (hv2 : ∀ p ∈ l, p.fit) (hc : c.length ≤ 1048576) :
  Ev pv 63 [x, .agg [y, .str c]] s0 (bytesV (b ++ setB l c)) s0 := by
 have hn1 := numB_le (l.length : Nat);have hlt2 := fl_le (f := patB) (n := 2097170) (l := l) (fun x hx => patB_le (hv2 x hx));have h3 : b ++ setB l c = (b ++ (numB (l.length : Nat) ++ (l.map patB).flatten)) ++ textB c := by unfold setB; simp only [List.append_assoc]
 rw [h3];have hcl := rows_cellsE hy;refine Ev.mk1 rfl fi63 rfl rfl rfl ?_;refine zE ?_;obtain ⟨hSb, hF, hH⟩ := ri s0;generalize enterSt .ro s0 = S at *;have hx := Arg.of hx hSb;have hy := Arg.of hy hSb;refine zQ 2 ?_;refine qb hH fun k3 st hk3 hH => ?_;refine zQ 7 ?_;refine qv (wListP_ev (hx.rows hH) (hy.rows hH) hl hll hv2) ?_;refine zQ 7 ?_;refine qv (wText_ev (bytesV_rows _ _) (by simp only [List.length_append]; omega) hc) ?_;refine zQ 2 ?_;refine EvC.ret ⟨rx, _, rfl, rl hSb hH (rfl)⟩
theorem rPutSet_ev {s0 : St} {x y : D} {b c : List UInt8} {l : List Pat} (hx : V.Rows s0 1 x (byteCells b)) (hy : V.Rows s0 2 y (l.map patC)) (hl : b.length ≤ 30000000000) (hll : l.length ≤ 1000) (hv2 : ∀ p ∈ l, p.fit) (hc : c.length ≤ 1048576) :
  Ev pv 64 [x, .agg [y, .str c]] s0 (bytesV (b ++ setB l c)) s0 := by
 have hn1 := numB_le (l.length : Nat);have h3 : b ++ setB l c = (b ++ (numB (l.length : Nat) ++ (l.map patB).flatten)) ++ textB c := by unfold setB; simp only [List.append_assoc]
 rw [h3];have hcl := rows_cellsE hy;refine Ev.mk1 rfl fi64 rfl rfl rfl ?_;refine zE ?_;obtain ⟨hSb, hF, hH⟩ := ri s0;generalize enterSt .ro s0 = S at *;have hx := Arg.of hx hSb;have hy := Arg.of hy hSb;refine zQ 2 ?_;refine qb hH fun k3 st hk3 hH => ?_;refine zQ 7 ?_;refine qn ?_;simp only [List.length_map];obtain ⟨hf1, hf2⟩ := hH.fine hF;obtain ⟨d10, st, hev, ho⟩ := rNum_ev (x := x) (b := b) hf1 hf2 (hx.rows hH) (by omega) (l.length : Nat) (by omega);have hH := hH.ovr ho
 (try dsimp only [u3, u4] at hH)
 refine qv hev ?_;refine zQ 7 ?_;have hH : Has s0.bs.length S st ([.box k3 (.mem 0 false [y, .str c])] ++ [.lst d10 1 (byteCells (b ++ numB (l.length : Nat)))]) := Has.rot [_] [_] hH;refine zQ 1 ?_;refine EvC.loop (fun mm fr st => ∃ (i : Nat) (o : D) (E : List Ent), fr.clean = ⟨6, [o, ixF_Ea fr 1, ixF_Ea fr 2, .ptr k3 0 0, ixF_Ea fr 4, .int .i64 (i : Nat)], []⟩ ∧ Has s0.bs.length S st (.box k3 (.mem 0 false [y, .str c]) :: E) ∧ (i + mm = l.length) ∧ (E = [.lst o 1 (byteCells (b ++ (numB (l.length : Nat) ++ ((l.take i).map patB).flatten)))] ∨ o = bytesV (b ++ (numB (l.length : Nat) ++ ((l.take i).map patB).flatten)))) (l.length) ?_ ?_
 ·exact ⟨0, d10, _, rfl, (by simpa using hH), by omega, .inl rfl⟩
 rintro mm fr st ⟨i, o, E, hfr, hH, hi, hE⟩;rw [hfr];clear hfr;generalize ixF_Ea fr = ee;clear fr;have hlt2 := fl_le (f := patB) (n := 2097170) (l := l.take i) (fun x hx => patB_le (hv2 x (List.mem_of_mem_take hx)));have htl : (l.take i).length ≤ 1000 := by rw [List.length_take]; omega
 have hpl : (b ++ (numB (l.length : Nat) ++ ((l.take i).map patB).flatten)).length ≤ 40000000000 := by simp only [List.length_append]; omega
 have hrows : ∀ {st : St}, Has s0.bs.length S st E → V.Rows st 1 o (byteCells (b ++ (numB (l.length : Nat) ++ ((l.take i).map patB).flatten))) := fun h => by
  rcases hE with rfl | rfl
  ·exact h.rows at0
  ·exact bytesV_rows _ _
 refine zQ 6 ?_;refine qn ?_;simp only [List.length_map];refine zQ 2 ?_;refine zP (fun hlt => ?_) fun hlt => ?_
 ·refine zQ 1 ?_
  obtain ⟨v, hv⟩ : ∃ v, l[i]? = some v := ⟨l[i]'(by omega), List.getElem?_eq_getElem _⟩
  have hvm := List.mem_of_getElem? hv;have hr1 := pat_get hv;have hsn := fl_snoc (f := patB) hv;have hsn2 : b ++ (numB (l.length : Nat) ++ ((l.take (i + 1)).map patB).flatten) = ((b ++ (numB (l.length : Nat) ++ ((l.take i).map patB).flatten)) ++ textB v.nm) ++ textB v.tx := by rw [hsn]; unfold patB; simp only [List.append_assoc]
  have hn := hv2 v hvm;have hn2 := textB_le v.nm;have hn3 := hn.1;generalize hP : b ++ (numB (l.length : Nat) ++ ((l.take i).map patB).flatten) = P at *;refine zQ 7 ?_;refine qr fun p22 hp22 => ?_;refine qf (fo := 0) fun p23 hp23 => ?_;refine qR ?_;refine qv (rText_ev (hrows (hH.drop 1)) (by omega) hn.1) ?_;refine zQ 3 ?_;refine qr fun p29 hp29 => ?_;refine qf (fo := 1) fun p30 hp30 => ?_;refine qR ?_;refine qv (rText_ev (bytesV_rows _ _) (by rw [List.length_append]; omega) hn.2) ?_;refine zQ 7 ?_;exact ⟨mm - 1, by omega, ⟨i + 1, _, [], rfl, (hH.take 1), by omega, .inr (by rw [hsn2])⟩⟩
 ·refine zQ 1 ?_;rw [List.take_of_length_le (by omega)] at hE hrows hpl;refine zQ 5 ?_;refine qv (rText_ev (hrows (hH.drop 1)) (by omega) hc) ?_;refine zQ 2 ?_;refine EvC.ret ⟨rx, _, rfl, rl hSb hH (rfl)⟩
end Go.Proofs.YtecjacicdpejaaaGreat
