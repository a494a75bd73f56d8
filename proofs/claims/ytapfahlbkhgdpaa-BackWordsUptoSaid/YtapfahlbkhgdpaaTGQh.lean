/- own -/
import Derived.Test.YtapfahlbkhgdpaaTGHr
import Derived.Test.YtapfahlbkhgdpaaTGKb
import Derived.Test.YtapfahlbkhgdpaaTGM3
import Derived.Test.YtapfahlbkhgdpaaTDig
set_option maxRecDepth 100000
set_option maxHeartbeats 4000000
set_option linter.unusedSimpArgs false
set_option linter.unusedVariables false
namespace Go.Proofs.Ytapfahlbkhgdpaa
open Go.V Go
def ixF_Qh (fr : Go.V.Fr) (k : Nat) : Go.V.D := Go.V.nth .junk fr.loc k
variable {bb : Bool}
theorem repC_zero {c : Nat -> List PIns} (hc : ∀ b,(c b).length = 0) (z : Nat) : ∀ k b,repC c z k b = []
 | 0,_ => rfl
 | k + 1,b => by rw [repC,repC_zero hc z k,List.length_eq_zero_iff.1 (hc b)]; rfl
theorem spI_form (s o : Nat) (lz : Bool) : ∃ x y : Int,spI s o lz = mkI 2 x y [] := by
 cases lz
 ·exact ⟨_,_,rfl⟩
 ·exact ⟨_,_,rfl⟩
theorem repeat_ev {l : List Nod} (hll : l.length <= 1048576) {m : Nat} (ih : ∀ t : Tr,t.flat.length <= m -> NodeSpec bb l t) {n : Nod} {t : Tr} (hop : n.op = 5) (hkm : t.flat.length <= m) (hno : nodOk n 1) (htok : t.ok) {N k : Nat} {S s0 : St} {H : List Ent} {nd zd ed : D} {code : List PIns} {Z E : List Int} {at_ : Nat} (hF : S.flr <= N) (hnd : SlD nd 7 (l.map nodC)) (hsl : Seg l at_ (n :: t.flat)) (hsz : Seg Z (at_ + 1) t.zs) (hse : Seg E (at_ + 1) (t.es (at_ + 1))) (hb : code.length + nodSz n t.sz 1 <= 1000000) (hM : MkH bb N S s0 k nd zd ed Z E H code) :
  ∃ r st',Ev pv 38 [.ptr k 0 0, .int .i64 (at_ : Nat)] s0 r st' /\ r = .tup [] /\ MkH bb N S st' k nd zd ed Z E H (code ++ rptC n (codeT t) t.sz code.length) := by
 obtain ⟨cd,dk,hH⟩ := hM;have hle := hsl.le (by simp);simp only [List.length_cons] at hle;have hn := hsl.head;have hsl := hsl.tail;have hr1 := nod_get hn;have hr2 := int_get (zs_head hsz)
 have hmn : 0 <= n.mn /\ n.mn <= 30 /\ (n.mx = -1 \/ (n.mn <= n.mx /\ n.mx <= 30)) := by
  obtain ⟨_,hq⟩ := hno; omega
 have hns : nodSz n t.sz 1 = if n.mx = -1 then n.mn.toNat * t.sz + t.sz + 2 else n.mn.toNat * t.sz + (n.mx.toNat - n.mn.toNat) * (t.sz + 1) := by unfold nodSz; rw [if_neg (by omega),if_neg (by omega),if_neg (by omega),if_pos hop]
 rw [hns] at hb;clear hns;have htc := fun b => codeT_len t b htok;have hb1 : code.length + n.mn.toNat * t.sz <= 1000000 := by split at hb <;> omega
 refine Ev.mkE rfl fi38 rfl rfl rfl ?_;refine zE ?_;change EvC _ _ _ _ s0 _;have hc := hnd.arg N S;refine zQ 7 ?_;refine qr fun p15 hp15 => ?_;refine EvO.rloadS rfl (ev rfl) (by assumption) rfl (by dsimp only [Fr.put,u1,u2] <;> rfl) ?_;refine zQ 2 ?_;refine qa hH fun k4 st hk4 hH => ?_;refine qS hH at0 fun st hH => ?_;dsimp only [u2,u1,u3,u4,setMany,u5,u6,D.cells,Nat.reduceAdd,insC,nodC,intC,natC] at hH;refine zQ 2 ?_;have hH : Has N S st (.box k (.mem 0 false [cd,nd,zd,ed]) :: .deepG bb dk cd 4 (code.map insC) :: .lst zd 1 (Z.map intC) :: .lst ed 1 (E.map intC) :: .box k4 (.mem 0 false (nodC n)) :: H) := hH.rot5;refine zQ 8 ?_;refine qi hH at2 fun p24 hp24 => ?_;refine zQ 3 ?_;have hRl := repC_len htc n.mn.toNat code.length;refine EvC.merge (fun fr st => ∃ (cd : D) (dk : Nat -> Prop) (tmp : List (Nat × D)),fr = ⟨78, [.ptr k 0 0, .int .i64 (at_ : Nat),ixF_Qh fr 2,ixF_Qh fr 3, .ptr k4 0 0, .int .i64 ((at_ + 1 : Nat) : Int),ixF_Qh fr 6,ixF_Qh fr 7,ixF_Qh fr 8,ixF_Qh fr 9,ixF_Qh fr 10,ixF_Qh fr 11,ixF_Qh fr 12,ixF_Qh fr 13,ixF_Qh fr 14,ixF_Qh fr 15,ixF_Qh fr 16,ixF_Qh fr 17,ixF_Qh fr 18,ixF_Qh fr 19,ixF_Qh fr 20,ixF_Qh fr 21,ixF_Qh fr 22,ixF_Qh fr 23,ixF_Qh fr 24,ixF_Qh fr 25,ixF_Qh fr 26,ixF_Qh fr 27,ixF_Qh fr 28,ixF_Qh fr 29,ixF_Qh fr 30,ixF_Qh fr 31,ixF_Qh fr 32,ixF_Qh fr 33,ixF_Qh fr 34,ixF_Qh fr 35,ixF_Qh fr 36,ixF_Qh fr 37,ixF_Qh fr 38,ixF_Qh fr 39,ixF_Qh fr 40,ixF_Qh fr 41,ixF_Qh fr 42,ixF_Qh fr 43,ixF_Qh fr 44,ixF_Qh fr 45,ixF_Qh fr 46,ixF_Qh fr 47,ixF_Qh fr 48,ixF_Qh fr 49,ixF_Qh fr 50,ixF_Qh fr 51,ixF_Qh fr 52,ixF_Qh fr 53,ixF_Qh fr 54,ixF_Qh fr 55,ixF_Qh fr 56,ixF_Qh fr 57,ixF_Qh fr 58,ixF_Qh fr 59,ixF_Qh fr 60,ixF_Qh fr 61,ixF_Qh fr 62,ixF_Qh fr 63,ixF_Qh fr 64,ixF_Qh fr 65,ixF_Qh fr 66,ixF_Qh fr 67,ixF_Qh fr 68,ixF_Qh fr 69,ixF_Qh fr 70,ixF_Qh fr 71,ixF_Qh fr 72,ixF_Qh fr 73,ixF_Qh fr 74,ixF_Qh fr 75,ixF_Qh fr 76,ixF_Qh fr 77],tmp⟩ /\ Has N S st (.box k (.mem 0 false [cd,nd,zd,ed]) :: .deepG bb dk cd 4 ((code ++ repC (codeT t) t.sz n.mn.toNat code.length).map insC) :: .lst zd 1 (Z.map intC) :: .lst ed 1 (E.map intC) :: .box k4 (.mem 0 false (nodC n)) :: H)) ?_ ?_
 ·refine zP (fun hz => ?_) fun hz => ?_
  ·refine zQ 7 ?_;refine EvC.loop (fun mm fr st => ∃ (i : Nat) (cd : D) (dk : Nat -> Prop) (code2 : List PIns),fr.clean = ⟨78, [.ptr k 0 0, .int .i64 (at_ : Nat),ixF_Qh fr 2,ixF_Qh fr 3, .ptr k4 0 0, .int .i64 ((at_ + 1 : Nat) : Int),ixF_Qh fr 6,ixF_Qh fr 7,ixF_Qh fr 8,ixF_Qh fr 9,ixF_Qh fr 10,ixF_Qh fr 11,ixF_Qh fr 12,ixF_Qh fr 13,ixF_Qh fr 14,ixF_Qh fr 15,ixF_Qh fr 16,ixF_Qh fr 17,ixF_Qh fr 18,ixF_Qh fr 19,ixF_Qh fr 20,ixF_Qh fr 21,ixF_Qh fr 22,ixF_Qh fr 23,ixF_Qh fr 24,ixF_Qh fr 25,ixF_Qh fr 26,ixF_Qh fr 27, .int .i64 n.mn, .int .i64 (i : Nat),ixF_Qh fr 30,ixF_Qh fr 31,ixF_Qh fr 32,ixF_Qh fr 33,ixF_Qh fr 34,ixF_Qh fr 35,ixF_Qh fr 36,ixF_Qh fr 37,ixF_Qh fr 38,ixF_Qh fr 39,ixF_Qh fr 40,ixF_Qh fr 41,ixF_Qh fr 42,ixF_Qh fr 43,ixF_Qh fr 44,ixF_Qh fr 45,ixF_Qh fr 46,ixF_Qh fr 47,ixF_Qh fr 48,ixF_Qh fr 49,ixF_Qh fr 50,ixF_Qh fr 51,ixF_Qh fr 52,ixF_Qh fr 53,ixF_Qh fr 54,ixF_Qh fr 55,ixF_Qh fr 56,ixF_Qh fr 57,ixF_Qh fr 58,ixF_Qh fr 59,ixF_Qh fr 60,ixF_Qh fr 61,ixF_Qh fr 62,ixF_Qh fr 63,ixF_Qh fr 64,ixF_Qh fr 65,ixF_Qh fr 66,ixF_Qh fr 67,ixF_Qh fr 68,ixF_Qh fr 69,ixF_Qh fr 70,ixF_Qh fr 71,ixF_Qh fr 72,ixF_Qh fr 73,ixF_Qh fr 74,ixF_Qh fr 75,ixF_Qh fr 76,ixF_Qh fr 77], []⟩ /\ Has N S st (.box k (.mem 0 false [cd,nd,zd,ed]) :: .deepG bb dk cd 4 (code2.map insC) :: .lst zd 1 (Z.map intC) :: .lst ed 1 (E.map intC) :: .box k4 (.mem 0 false (nodC n)) :: H) /\ (i + mm = n.mn.toNat) /\ (code2 ++ repC (codeT t) t.sz mm code2.length = code ++ repC (codeT t) t.sz n.mn.toNat code.length) /\ (code2.length + mm * t.sz = code.length + n.mn.toNat * t.sz)) (n.mn.toNat) ?_ ?_
   ·exact ⟨0,cd,dk,code,rfl,hH,by omega,rfl,rfl⟩
   rintro mm fr st ⟨i,cd,dk,code2,hfr,hH,hi,hc2,hcl⟩;rw [hfr];clear hfr;generalize ixF_Qh fr = ee;clear fr;refine zQ 4 ?_
   cases mm with
   | zero =>
    have hcc : decide ((i : Int) < n.mn) = false := by rw [decide_eq_false_iff_not]; omega
    refine qq ?_;refine qE rfl (by rw [hcc]) ?_;simp only [repC,List.append_nil] at hc2;rw [hc2] at hH;refine zQ 1 ?_;exact ⟨cd,dk,_,rfl,hH⟩
   | succ mm =>
    have hcc : decide ((i : Int) < n.mn) = true := by rw [decide_eq_true_eq]; omega
    rw [Nat.succ_mul] at hcl;refine qq ?_;refine qD rfl (by rw [hcc]) ?_;refine zQ 6 ?_;obtain ⟨_,st,hev,rfl,cd,dk,hH⟩ := ih t (by omega) hF hnd hsl hsz hse htok (by omega) ⟨cd,dk,hH⟩;refine qv hev ?_;refine zQ 5 ?_;exact ⟨mm,by omega,⟨i + 1,cd,dk,code2 ++ codeT t code2.length,rfl,hH,by omega,by rw [List.length_append,htc,List.append_assoc]; exact hc2,by rw [List.length_append,htc]; omega⟩⟩
  ·refine zQ 1 ?_;have hz0 : t.sz = 0 := by omega
   have hR0 : repC (codeT t) t.sz n.mn.toNat code.length = [] := repC_zero (fun b => by rw [htc,hz0]) _ _ _;exact ⟨cd,dk,_,rfl,(by rw [hR0,List.append_nil]; exact hH)⟩
 ·rintro fr st ⟨cd,dk,tmp,hfr,hH⟩;rw [hfr];clear hfr;generalize ixF_Qh fr = ee;clear fr;have hcR : (code ++ repC (codeT t) t.sz n.mn.toNat code.length).length = code.length + n.mn.toNat * t.sz := by rw [List.length_append,hRl]
  unfold rptC;rw [<- hcR];rw [<- hcR] at hb1
  have hb2 : if n.mx = -1 then (code ++ repC (codeT t) t.sz n.mn.toNat code.length).length + t.sz + 2 <= 1000000 else (code ++ repC (codeT t) t.sz n.mn.toNat code.length).length + (n.mx.toNat - n.mn.toNat) * (t.sz + 1) <= 1000000 := by
   rw [hcR]; split
   ·rename_i h; rw [if_pos h] at hb; omega
   ·rename_i h; rw [if_neg h] at hb; omega
  have happ : ∀ X : List PIns,code ++ (repC (codeT t) t.sz n.mn.toNat code.length ++ X) = code ++ repC (codeT t) t.sz n.mn.toNat code.length ++ X := fun X => by rw [List.append_assoc]
  simp only [apply_ite (fun X : List PIns => code ++ X),happ];clear happ hcR;generalize code ++ repC (codeT t) t.sz n.mn.toNat code.length = cR at *;refine zQ 7 ?_
  by_cases qmx : n.mx = -1
  ·rw [if_pos qmx];rw [if_pos qmx] at hb2;refine qD rfl (by simp [qmx]) ?_;refine zQ 3 ?_;refine EvO.go (d := .agg [.int .i64 2, .int .i64 0, .int .i64 0, .nul]) (st1 := _) rfl rfl rfl (by dsimp only [Fr.put,u1,u2] <;> rfl) ?_;have hH := hH.nulE 2;obtain ⟨_,st,hev,rfl,cd,dk,hH⟩ := add_ev (rs := []) hF (by omega) hH;refine qv hev ?_;refine zQ 2 ?_;have hcl1 : (cR ++ [mkI 2 0 0 []]).length = cR.length + 1 := by simp
   refine zQ 4 ?_;obtain ⟨_,st,hev,rfl,cd,dk,hH⟩ := ih t (by omega) hF hnd hsl hsz hse htok (by omega) ⟨cd,dk,hH⟩;refine qv hev ?_;refine zQ 1 ?_;rw [hcl1] at hH;have hcl2 : (cR ++ [mkI 2 0 0 []] ++ codeT t (cR.length + 1)).length = cR.length + 1 + t.sz := by rw [List.length_append,hcl1,htc]
   refine zQ 4 ?_;refine EvO.go (d := .agg [.int .i64 3, .int .i64 (cR.length : Nat), .int .i64 0, .nul]) (st1 := _) rfl rfl rfl (by dsimp only [Fr.put,u1,u2] <;> rfl) ?_;have hH := hH.nulE 2;obtain ⟨_,st,hev,rfl,cd,dk,hH⟩ := add_ev (rs := []) hF (by omega) hH;refine qv hev ?_;refine zQ 1 ?_
   have hat3 : (cR ++ [mkI 2 0 0 []] ++ codeT t (cR.length + 1) ++ [mkI 3 (cR.length : Nat) 0 []])[cR.length]? = some (mkI 2 0 0 []) := by
    rw [List.append_assoc,List.append_assoc]; exact get_mid _ _ _
   have hcl3 : (cR ++ [mkI 2 0 0 []] ++ codeT t (cR.length + 1) ++ [mkI 3 (cR.length : Nat) 0 []]).length = cR.length + t.sz + 2 := by rw [List.length_append,hcl2]; simp only [List.length_cons,List.length_nil]; omega
   have hst3 : (cR ++ [mkI 2 0 0 []] ++ codeT t (cR.length + 1) ++ [mkI 3 (cR.length : Nat) 0 []]).set cR.length (spI cR.length (cR.length + t.sz + 2) n.lz) = cR ++ (spI cR.length (cR.length + t.sz + 2) n.lz :: (codeT t (cR.length + 1) ++ [jpI cR.length])) := by
    rw [List.append_assoc,List.append_assoc]; exact set_mid _ _ _ _
   generalize cR ++ [mkI 2 0 0 []] ++ codeT t (cR.length + 1) ++ [mkI 3 (cR.length : Nat) 0 []] = code3 at *;refine zQ 8 ?_;refine EvO.dlen hH rfl (ev rfl) (by exact at1) rfl (by dsimp only [Fr.put,u1,u2] <;> rfl) ?_;simp only [List.length_map,List.length_append,List.length_cons,List.length_nil];refine zQ 2 ?_;obtain ⟨_,st,hev,rfl,hH⟩ := split_ev (at_ := cR.length) (over := code3.length) (lz := n.lz) hat3 (by omega) hH;refine qv hev ?_;refine zQ 1 ?_;rw [hcl3,hst3] at hH;refine EvC.ret ⟨rx,_,_,_,rfl,rfl,?_⟩;exact ⟨rfl,cd,dk,hH.erase 4⟩
  ·rw [if_neg qmx];rw [if_neg qmx] at hb2;refine qE rfl (by simp [qmx]) ?_;refine zQ 1 ?_;obtain ⟨a,ha⟩ : ∃ a : Nat,n.mn = (a : Int) := Int.eq_ofNat_of_zero_le hmn.1;obtain ⟨b,hb3⟩ : ∃ b : Nat,n.mx = (b : Int) := Int.eq_ofNat_of_zero_le (by omega);have hdd : n.mx.toNat - n.mn.toNat = b - a := by omega
   rw [hdd] at hb2 ⊢;refine zQ 11 ?_;refine EvO.subZ (z := ((b - a : Nat) : Int)) rfl (ev rfl) (ev rfl) (by (try simp only [List.length_reverse,List.length_cons,List.length_nil,List.length_append,List.length_map,List.length_set]); rw [wrap_i64 (by omega) (by omega)] <;> omega) (by dsimp only [Fr.put,u1,u2] <;> rfl) ?_;refine zQ 2 ?_;have hH : Has N S st (.box k (.mem 0 false [cd,nd,zd,ed]) :: .deepG bb dk cd 4 (cR.map insC) :: .lst zd 1 (Z.map intC) :: .lst ed 1 (E.map intC) :: .lst .nul 1 (([] : List Nat).map natC) :: .box k4 (.mem 0 false (nodC n)) :: H) := (hH.nulE 1).rot5;refine zQ 1 ?_;refine EvC.loop (fun mm fr st => ∃ (i : Nat) (cd jd : D) (dk : Nat -> Prop) (code2 : List PIns) (js : List Nat),fr.clean = ⟨78, [.ptr k 0 0, .int .i64 (at_ : Nat),ixF_Qh fr 2,ixF_Qh fr 3, .ptr k4 0 0, .int .i64 ((at_ + 1 : Nat) : Int),ixF_Qh fr 6,jd,ixF_Qh fr 8,ixF_Qh fr 9,ixF_Qh fr 10,ixF_Qh fr 11,ixF_Qh fr 12,ixF_Qh fr 13,ixF_Qh fr 14,ixF_Qh fr 15,ixF_Qh fr 16,ixF_Qh fr 17,ixF_Qh fr 18,ixF_Qh fr 19,ixF_Qh fr 20,ixF_Qh fr 21,ixF_Qh fr 22,ixF_Qh fr 23,ixF_Qh fr 24,ixF_Qh fr 25,ixF_Qh fr 26,ixF_Qh fr 27,ixF_Qh fr 28,ixF_Qh fr 29,ixF_Qh fr 30,ixF_Qh fr 31,ixF_Qh fr 32,ixF_Qh fr 33,ixF_Qh fr 34,ixF_Qh fr 35,ixF_Qh fr 36,ixF_Qh fr 37,ixF_Qh fr 38,ixF_Qh fr 39,ixF_Qh fr 40,ixF_Qh fr 41,ixF_Qh fr 42,ixF_Qh fr 43,ixF_Qh fr 44,ixF_Qh fr 45,ixF_Qh fr 46,ixF_Qh fr 47,ixF_Qh fr 48,ixF_Qh fr 49,ixF_Qh fr 50,ixF_Qh fr 51,ixF_Qh fr 52,ixF_Qh fr 53,ixF_Qh fr 54,ixF_Qh fr 55,ixF_Qh fr 56,ixF_Qh fr 57,ixF_Qh fr 58,ixF_Qh fr 59,ixF_Qh fr 60,ixF_Qh fr 61, .int .i64 ((b - a : Nat) : Int), .int .i64 (i : Nat),ixF_Qh fr 64,ixF_Qh fr 65,ixF_Qh fr 66,ixF_Qh fr 67,ixF_Qh fr 68,ixF_Qh fr 69,ixF_Qh fr 70,ixF_Qh fr 71,ixF_Qh fr 72,ixF_Qh fr 73,ixF_Qh fr 74,ixF_Qh fr 75,ixF_Qh fr 76,ixF_Qh fr 77], []⟩ /\ Has N S st (.box k (.mem 0 false [cd,nd,zd,ed]) :: .deepG bb dk cd 4 (code2.map insC) :: .lst zd 1 (Z.map intC) :: .lst ed 1 (E.map intC) :: .lst jd 1 (js.map natC) :: .box k4 (.mem 0 false (nodC n)) :: H) /\ (i + mm = b - a) /\ (code2 ++ optC (fun _ => mkI 2 0 0 []) (codeT t) t.sz mm code2.length = cR ++ optC (fun _ => mkI 2 0 0 []) (codeT t) t.sz (b - a) cR.length) /\ (js ++ optJ t.sz mm code2.length = optJ t.sz (b - a) cR.length) /\ (code2.length + mm * (t.sz + 1) = cR.length + (b - a) * (t.sz + 1)) /\ (js.length = i)) (b - a) ?_ ?_
   ·exact ⟨0,cd, .nul,dk,cR, [],rfl,hH,by omega,rfl,rfl,rfl,rfl⟩
   rintro mm fr st ⟨i,cd,jd,dk,code2,js,hfr,hH,hi,hcode,hjs,hcl,hjl⟩;rw [hfr];clear hfr;generalize ixF_Qh fr = ee;clear fr;refine zQ 4 ?_
   cases mm with
   | zero =>
    have hcc : decide ((i : Int) < ((b - a : Nat) : Int)) = false := by rw [decide_eq_false_iff_not]; omega
    refine qq ?_;refine qE rfl (by rw [hcc]) ?_;refine zQ 4 ?_;refine qn ?_ (hR := hH.rows at4);simp only [List.length_map];refine zQ 2 ?_;simp only [optC,optJ,List.append_nil] at hcode hjs;rw [hcode] at hH;obtain ⟨hp1,hp2⟩ := opt_patch (sp := fun s => spI s (cR.length + (b - a) * (t.sz + 1)) n.lz) htc (i0 := mkI 2 0 0 []) (b - a) cR.length cR [] rfl;simp only [List.append_nil] at hp1 hp2;have hC0 : (cR ++ optC (fun _ => mkI 2 0 0 []) (codeT t) t.sz (b - a) cR.length).length = cR.length + (b - a) * (t.sz + 1) := by rw [List.length_append,optC_len htc]
    rw [<- hjs] at hp1 hp2;rw [<- hp1];clear hp1 hcode;generalize cR ++ optC (fun _ => mkI 2 0 0 []) (codeT t) t.sz (b - a) cR.length = C0 at *;generalize cR.length + (b - a) * (t.sz + 1) = e at *;refine zQ 1 ?_;refine EvC.loop (fun mm fr st => ∃ (q : Nat) (C : List PIns),fr.clean = ⟨78, [.ptr k 0 0,ixF_Qh fr 1,ixF_Qh fr 2,ixF_Qh fr 3, .ptr k4 0 0,ixF_Qh fr 5,ixF_Qh fr 6,ixF_Qh fr 7,ixF_Qh fr 8,ixF_Qh fr 9,ixF_Qh fr 10,ixF_Qh fr 11,ixF_Qh fr 12,ixF_Qh fr 13,ixF_Qh fr 14,ixF_Qh fr 15,ixF_Qh fr 16,ixF_Qh fr 17,ixF_Qh fr 18,ixF_Qh fr 19,ixF_Qh fr 20,ixF_Qh fr 21,ixF_Qh fr 22,ixF_Qh fr 23,ixF_Qh fr 24,ixF_Qh fr 25,ixF_Qh fr 26,ixF_Qh fr 27,ixF_Qh fr 28,ixF_Qh fr 29,ixF_Qh fr 30,ixF_Qh fr 31,ixF_Qh fr 32,ixF_Qh fr 33,ixF_Qh fr 34,ixF_Qh fr 35,ixF_Qh fr 36,ixF_Qh fr 37,ixF_Qh fr 38,ixF_Qh fr 39,ixF_Qh fr 40,ixF_Qh fr 41,ixF_Qh fr 42,ixF_Qh fr 43,ixF_Qh fr 44,ixF_Qh fr 45,ixF_Qh fr 46,ixF_Qh fr 47,ixF_Qh fr 48,ixF_Qh fr 49,ixF_Qh fr 50,ixF_Qh fr 51,ixF_Qh fr 52,ixF_Qh fr 53,ixF_Qh fr 54,ixF_Qh fr 55,ixF_Qh fr 56,ixF_Qh fr 57,ixF_Qh fr 58,ixF_Qh fr 59,ixF_Qh fr 60,ixF_Qh fr 61,ixF_Qh fr 62,ixF_Qh fr 63,ixF_Qh fr 64,ixF_Qh fr 65,ixF_Qh fr 66,ixF_Qh fr 67,ixF_Qh fr 68,ixF_Qh fr 69,ixF_Qh fr 70,ixF_Qh fr 71,ixF_Qh fr 72,ixF_Qh fr 73,ixF_Qh fr 74,jd, .int .i64 (js.length : Nat), .int .i64 (q : Nat)], []⟩ /\ Has N S st (.box k (.mem 0 false [cd,nd,zd,ed]) :: .deepG bb dk cd 4 (C.map insC) :: .lst zd 1 (Z.map intC) :: .lst ed 1 (E.map intC) :: .lst jd 1 (js.map natC) :: .box k4 (.mem 0 false (nodC n)) :: H) /\ (q + mm = js.length) /\ (setAll (fun s => spI s e n.lz) C (js.drop q) = setAll (fun s => spI s e n.lz) C0 js) /\ (∀ p ∈ js, ∃ x y : Int,C[p]? = some (mkI 2 x y [])) /\ (C.length = e)) (js.length) ?_ ?_
    ·exact ⟨0,C0,rfl,hH,by omega,rfl,fun p hp => ⟨_,_,hp2 p hp⟩,hC0⟩
    rintro mm fr st ⟨q,C,hfr,hH,hq,hset,hall,hCl⟩;rw [hfr];clear hfr;generalize ixF_Qh fr = ee;clear fr;refine zQ 5 ?_;refine zP (fun hlt => ?_) fun hlt => ?_
    ·refine zQ 1 ?_;have hql : q < js.length := by omega
     obtain ⟨p,hp⟩ : ∃ p,js[q]? = some p := ⟨js[q]'hql,List.getElem?_eq_getElem _⟩
     obtain ⟨x,y,hv⟩ := hall p (List.mem_of_getElem? hp);have hr1 := natC_get hp;have hpl := lt_get hv;refine zQ 4 ?_;refine qi hH at4 fun p79 hp79 => ?_;refine zQ 10 ?_;refine EvO.dlen hH rfl (ev rfl) (by exact at1) rfl (put_T rfl _) ?_;simp only [List.length_map];refine zQ 2 ?_;obtain ⟨_,st,hev,rfl,hH⟩ := split_ev (at_ := p) (over := C.length) (lz := n.lz) hv (by omega) hH;refine qv hev ?_;refine zQ 5 ?_
     have hdr : js.drop q = p :: js.drop (q + 1) := by
      rw [List.drop_eq_getElem_cons hql]
      congr 1
      exact Option.some.inj ((List.getElem?_eq_getElem _).symm.trans hp)
     refine ⟨mm - 1,by omega,⟨q + 1,C.set p (spI p e n.lz),rfl,(by rw [hCl] at hH; exact hH),by omega,by rw [hdr] at hset; exact hset,?_,by rw [List.length_set]; exact hCl⟩⟩;intro p' hp'
     by_cases hpp : p' = p
     ·subst hpp;obtain ⟨x',y',hxy⟩ := spI_form p' e n.lz;exact ⟨x',y',by rw [List.getElem?_set_self hpl,hxy]⟩
     ·rw [List.getElem?_set_ne (fun e => hpp e.symm)]; exact hall p' hp'
    ·refine zQ 1 ?_;refine ⟨fun i h => (by cases h),_,_,_,rfl,rfl,?_⟩;have hq2 : q = js.length := by omega
     rw [hq2,List.drop_length] at hset;have hset : C = setAll (fun s => spI s e n.lz) C0 js := hset;rw [<- hset];exact ⟨rfl,cd,dk,(hH.erase 5).erase 4⟩
   | succ mm =>
    have hcc : decide ((i : Int) < ((b - a : Nat) : Int)) = true := by rw [decide_eq_true_eq]; omega
    rw [Nat.succ_mul] at hcl;refine qq ?_;refine qD rfl (by rw [hcc]) ?_;refine zQ 7 ?_;refine EvO.go (d := .agg [.int .i64 2, .int .i64 0, .int .i64 0, .nul]) (st1 := _) rfl rfl rfl (by dsimp only [Fr.put,u1,u2] <;> rfl) ?_;have hH := hH.nulE 2;obtain ⟨_,st,hev,rfl,cd,dk,hH⟩ := add_ev (rs := []) hF (by omega) hH;refine qv hev ?_;refine qh (s := 1) (vs := [_]) hH fun k69 st hk69 hH => ?_;dsimp only [u2,u1,u3,u4,setMany,u5,u6,D.cells,Nat.reduceAdd,insC,nodC,intC,natC] at hH;refine qP hH at5 (hH.rows at0) fun x70 st hH => ?_;dsimp only [u2,u1,u3,u4,setMany,u5,u6,D.cells,Nat.reduceAdd,insC,nodC,intC,natC] at hH;refine zQ 2 ?_;have hH := hH.drop 1;have hcl1 : (code2 ++ [mkI 2 0 0 []]).length = code2.length + 1 := by simp
    refine zQ 3 ?_;obtain ⟨_,st,hev,rfl,cd,dk,hH⟩ := ih t (by omega) hF hnd hsl hsz hse htok (by omega) ⟨cd,dk,hH⟩;refine qv hev ?_;refine zQ 1 ?_;rw [hcl1] at hH;have hcl2 : (code2 ++ [mkI 2 0 0 []] ++ codeT t (code2.length + 1)).length = code2.length + 1 + t.sz := by rw [List.length_append,hcl1,htc]
    refine zQ 4 ?_;exact ⟨mm,by omega,⟨i + 1,cd,x70,dk,code2 ++ [mkI 2 0 0 []] ++ codeT t (code2.length + 1),js ++ [code2.length],rfl,(by rw [List.map_append (f := natC)]; exact hH),by omega,by rw [hcl2, <- hcode]; simp only [optC,List.append_assoc,List.cons_append,List.nil_append],by rw [hcl2, <- hjs]; simp only [optJ,List.append_assoc,List.cons_append,List.nil_append],by rw [hcl2]; omega,by rw [List.length_append,hjl]; rfl⟩⟩
end Go.Proofs.Ytapfahlbkhgdpaa
namespace Go.Proofs.Ytapfahlbkhgdpaa
open Go.V Go
def ixF_Qi (fr : Go.V.Fr) (k : Nat) : Go.V.D := Go.V.nth .junk fr.loc k
variable {bb : Bool}
theorem catT_one (t : Tr) : catT (.cons t .nil) = codeT t := by
 funext b; simp only [catT,List.append_nil]
theorem sz_one (t : Tr) : (Trs.cons t .nil).sz = t.sz := by simp only [Trs.sz,Nat.add_zero]
theorem node_ev {l : List Nod} (hll : l.length <= 1048576) (hi : ∀ n ∈ l,n.ok) : ∀ (m : Nat) (t : Tr),t.flat.length <= m -> NodeSpec bb l t := by
 intro m
 induction m with
 | zero => intro t h; have := t.flat_pos; omega
 | succ m ih =>
  rintro ⟨n,ks⟩ hm N k S s0 H nd zd ed code Z E at_ hF hnd hsl hsz hse hok hb hM;have hM0 := hM;obtain ⟨cd,dk,hH⟩ := hM;simp only [Tr.ok] at hok;obtain ⟨hno,hks⟩ := hok;simp only [Tr.flat,List.length_cons] at hm;have hle := hsl.le (by simp [Tr.flat]);simp only [Tr.flat] at hsl hle;simp only [List.length_cons] at hle;simp only [Tr.zs] at hsz;simp only [Tr.es] at hse;simp only [Tr.sz] at hb;have hn := hsl.head;have hnn := hi n (List.mem_of_getElem? hn);have hrd := hnn.1.arg N S;have hrl := hnn.2.1;have hr1 := nod_get hn;have hkd := hno.1;have hkl := Trs.len_le ks;have hcat := fun b => catT_len ks b hks;refine Ev.mkE rfl fi22 rfl rfl rfl ?_;refine zE ?_;change EvC _ _ _ _ s0 _;have hc := hnd.arg N S;refine zQ 7 ?_;refine qr fun p11 hp11 => ?_;refine EvO.rloadS rfl (ev rfl) (by assumption) rfl (by dsimp only [Fr.put,u1,u2] <;> rfl) ?_;refine qa hH fun k4 st hk4 hH => ?_;refine qS hH at0 fun st hH => ?_;dsimp only [u2,u1,u3,u4,setMany,u5,u6,D.cells,Nat.reduceAdd,insC,nodC,intC,natC] at hH;refine zQ 1 ?_;have hH : Has N S st (.box k (.mem 0 false [cd,nd,zd,ed]) :: .deepG bb dk cd 4 (code.map insC) :: .lst zd 1 (Z.map intC) :: .lst ed 1 (E.map intC) :: .box k4 (.mem 0 false (nodC n)) :: H) := hH.rot5;refine zQ 11 ?_;refine zI (fun q2 => ?_) fun q2 => ?_
  ·have hcT : codeT (.mk n ks) code.length = [mkI 1 0 0 n.rs] := by simp only [codeT,if_pos q2]
   rw [hcT];have hz : nodSz n ks.sz ks.len = 1 := by unfold nodSz; rw [if_pos (.inl q2)]
   have hH := hH.nulE 2;refine zQ 4 ?_;refine qP hH at0 (Arg.rows (by assumption) hH) fun x20 st hH => ?_;dsimp only [u2,u1,u3,u4,setMany,u5,u6,D.cells,Nat.reduceAdd,insC,nodC,intC,natC] at hH;refine EvO.ones (qs := [(0,_),(3,_)]) rfl rfl rfl rfl ⟨rfl,(ev rfl),(by rfl),rfl,(ev rfl),(by exact hH.ocells (by exact at0)),trivial⟩ (by intro q hq; simp only [List.mem_cons,List.not_mem_nil,or_false] at hq; rcases hq with rfl | rfl <;> exact ⟨rfl,by exact Nat.le_of_ble_eq_true rfl⟩) (by show List.foldl _ [_,_,_,_] _ = _; dsimp only [List.foldl_cons,List.foldl_nil,u2,u1] <;> rfl) (by dsimp only [Fr.put,u1,u2] <;> rfl) ?_;obtain ⟨_,st,hev,rfl,cd,dk,hH⟩ := add_ev (rs := n.rs) hF (by omega) hH;refine qv hev ?_;refine zQ 1 ?_;refine ⟨fun i h => (by cases h),_,_,_,rfl,rfl,?_⟩;exact ⟨rfl,cd,dk,hH.erase 4⟩
  refine zQ 5 ?_;refine zI (fun q7 => ?_) fun q7 => ?_
  ·have hcT : codeT (.mk n ks) code.length = [mkI 5 0 0 []] := by simp only [codeT,if_neg q2,if_pos q7]
   rw [hcT];refine zQ 2 ?_;refine EvO.go (d := .agg [.int .i64 5, .int .i64 0, .int .i64 0, .nul]) (st1 := _) rfl rfl rfl (by dsimp only [Fr.put,u1,u2] <;> rfl) ?_;have hH := hH.nulE 2;obtain ⟨_,st,hev,rfl,cd,dk,hH⟩ := add_ev (rs := []) hF (by omega) hH;refine qv hev ?_;refine zQ 1 ?_;refine ⟨fun i h => (by cases h),_,_,_,rfl,rfl,?_⟩;exact ⟨rfl,cd,dk,hH.erase 4⟩
  refine zQ 5 ?_;refine zI (fun q8 => ?_) fun q8 => ?_
  ·have hcT : codeT (.mk n ks) code.length = [mkI 6 0 0 []] := by simp only [codeT,if_neg q2,if_neg q7,if_pos q8]
   rw [hcT];refine zQ 2 ?_;refine EvO.go (d := .agg [.int .i64 6, .int .i64 0, .int .i64 0, .nul]) (st1 := _) rfl rfl rfl (by dsimp only [Fr.put,u1,u2] <;> rfl) ?_;have hH := hH.nulE 2;obtain ⟨_,st,hev,rfl,cd,dk,hH⟩ := add_ev (rs := []) hF (by omega) hH;refine qv hev ?_;refine zQ 1 ?_;refine ⟨fun i h => (by cases h),_,_,_,rfl,rfl,?_⟩;exact ⟨rfl,cd,dk,hH.erase 4⟩
  refine zQ 5 ?_;refine zI (fun q3 => ?_) fun q3 => ?_
  ·have hcT : codeT (.mk n ks) code.length = catT ks code.length := by simp only [codeT,if_neg q2,if_neg q7,if_neg q8,if_pos q3]
   rw [hcT];have hz : nodSz n ks.sz ks.len = ks.sz := by unfold nodSz; rw [if_neg (by omega),if_neg (by omega),if_neg (by omega),if_neg (by omega)]
   rw [hz] at hb;refine zQ 13 ?_;refine EvC.loop (fun mm fr st => ∃ (i j : Nat) (rest : Trs) (cd : D) (dk : Nat -> Prop) (code2 : List PIns),fr.clean = ⟨40, [.ptr k 0 0, .int .i64 (at_ : Nat),ixF_Qi fr 2,ixF_Qi fr 3, .ptr k4 0 0, .int .i64 (j : Nat),ixF_Qi fr 6,ixF_Qi fr 7,ixF_Qi fr 8,ixF_Qi fr 9,ixF_Qi fr 10,ixF_Qi fr 11,ixF_Qi fr 12,ixF_Qi fr 13,ixF_Qi fr 14,ixF_Qi fr 15,ixF_Qi fr 16,ixF_Qi fr 17,ixF_Qi fr 18,ixF_Qi fr 19,ixF_Qi fr 20,ixF_Qi fr 21,ixF_Qi fr 22,ixF_Qi fr 23,ixF_Qi fr 24,ixF_Qi fr 25,ixF_Qi fr 26,ixF_Qi fr 27,ixF_Qi fr 28,ixF_Qi fr 29,ixF_Qi fr 30,ixF_Qi fr 31,ixF_Qi fr 32,ixF_Qi fr 33,ixF_Qi fr 34,ixF_Qi fr 35,ixF_Qi fr 36,ixF_Qi fr 37, .int .i64 n.kids, .int .i64 (i : Nat)], []⟩ /\ Has N S st (.box k (.mem 0 false [cd,nd,zd,ed]) :: .deepG bb dk cd 4 (code2.map insC) :: .lst zd 1 (Z.map intC) :: .lst ed 1 (E.map intC) :: .box k4 (.mem 0 false (nodC n)) :: H) /\ (mm = rest.len) /\ (i + rest.len = ks.len) /\ (Seg l j rest.flat) /\ (Seg Z j rest.zs) /\ (Seg E j (rest.es j)) /\ (rest.ok) /\ (code2 ++ catT rest code2.length = code ++ catT ks code.length) /\ (code2.length + rest.sz = code.length + ks.sz) /\ (rest.flat.length <= m)) (ks.len) ?_ ?_
   ·exact ⟨0,at_ + 1,ks,cd,dk,code,rfl,hH,rfl,by omega,hsl.tail,hsz.tail,hse.tail,hks,rfl,rfl,by omega⟩
   rintro mm fr st ⟨i,j,rest,cd,dk,code2,hfr,hH,hmm,hi2,hsg,hsgz,hsge,hrok,hcode,hcl,hrm⟩;rw [hfr];clear hfr;generalize ixF_Qi fr = ee;clear fr;refine zQ 4 ?_
   cases rest with
   | nil =>
    simp only [Trs.len] at hi2;simp only [catT,List.append_nil] at hcode;have hcc : decide ((i : Int) < n.kids) = false := by rw [decide_eq_false_iff_not]; omega
    refine qq ?_;refine qE rfl (by rw [hcc]) ?_;refine zQ 1 ?_;refine ⟨fun i h => (by cases h),_,_,_,rfl,rfl,?_⟩;rw [<- hcode];exact ⟨rfl,cd,dk,hH.erase 4⟩
   | cons t ts =>
    simp only [Trs.len] at hi2 hmm;simp only [Trs.sz] at hcl;simp only [Trs.flat,List.length_append] at hsg hrm;simp only [Trs.zs] at hsgz;simp only [Trs.es] at hsge;simp only [Trs.ok] at hrok;simp only [catT] at hcode;have htz := t.zs_len;have hte := t.es_len j;have htc := codeT_len t code2.length hrok.1;have hr11 := int_get (es_head hsge.left);have hcc : decide ((i : Int) < n.kids) = true := by rw [decide_eq_true_eq]; omega
    refine qq ?_;refine qD rfl (by rw [hcc]) ?_;refine zQ 7 ?_;obtain ⟨_,st,hev,rfl,cd,dk,hH⟩ := ih t (by omega) hF hnd hsg.left hsgz.left hsge.left hrok.1 (by omega) ⟨cd,dk,hH⟩;refine qv hev ?_;refine zQ 7 ?_;refine qi hH at3 fun p49 hp49 => ?_;refine zQ 7 ?_;exact ⟨mm - 1,by omega,⟨i + 1,j + t.flat.length,ts,cd,dk,code2 ++ codeT t code2.length,rfl,hH,by omega,by omega,hsg.right,by rw [<- htz]; exact hsgz.right,by rw [<- hte]; rw [<- hte] at hsge; exact hsge.right,hrok.2,by rw [List.length_append,htc,List.append_assoc]; exact hcode,by rw [List.length_append,htc]; omega,by omega⟩⟩
  refine zQ 5 ?_;refine zI (fun q4 => ?_) fun q4 => ?_
  ·have hcT : codeT (.mk n ks) code.length = altT (jpI (code.length + nodSz n ks.sz ks.len)) ks code.length := by simp only [codeT,if_neg q2,if_neg q7,if_neg q8,if_neg q3,if_pos q4]
   rw [hcT];refine zQ 3 ?_;obtain ⟨_,st,hev,rfl,cd,dk,hH⟩ := alt_ev hll ih q4 (by omega) hno hks hF hnd hsl hsz.tail hse.tail hb ⟨cd,dk,hH⟩;refine qv hev ?_;refine zQ 1 ?_;refine ⟨fun i h => (by cases h),_,_,_,rfl,rfl,?_⟩;exact ⟨rfl,cd,dk,hH.erase 4⟩
  refine zQ 5 ?_;refine zI (fun q5 => ?_) fun q5 => ?_
  ·have hk1 : ks.len = 1 := by
    obtain ⟨_,hq⟩ := hno; omega
   obtain ⟨t,rfl⟩ := Trs.len_one hk1;have hcT : codeT (.mk n (.cons t .nil)) code.length = rptC n (codeT t) t.sz code.length := by simp only [codeT,if_neg q2,if_neg q7,if_neg q8,if_neg q3,if_neg q4,if_pos q5,catT_one,sz_one]
   rw [hcT];rw [hk1] at hno hb;rw [sz_one] at hb;simp only [Trs.flat,Trs.zs,Trs.es,Trs.ok,List.append_nil] at *;refine zQ 3 ?_;obtain ⟨_,st,hev,rfl,cd,dk,hH⟩ := repeat_ev hll ih q5 (by omega) hno hks.1 hF hnd hsl hsz.tail hse.tail hb ⟨cd,dk,hH⟩;refine qv hev ?_;refine zQ 1 ?_;refine ⟨fun i h => (by cases h),_,_,_,rfl,rfl,?_⟩;exact ⟨rfl,cd,dk,hH.erase 4⟩
  refine zQ 5 ?_;refine zI (fun q6 => ?_) fun q6 => ?_
  ·have hk1 : ks.len = 1 /\ 1 <= n.cap /\ n.cap <= 4 := by
    obtain ⟨_,hq⟩ := hno; omega
   obtain ⟨t,rfl⟩ := Trs.len_one hk1.1;have hcT : codeT (.mk n (.cons t .nil)) code.length = mkI 4 (2 * n.cap) 0 [] :: (codeT t (code.length + 1) ++ [mkI 4 (2 * n.cap + 1) 0 []]) := by simp only [codeT,if_neg q2,if_neg q7,if_neg q8,if_neg q3,if_neg q4,if_neg q5,if_pos q6,catT_one]
   rw [hcT];have hz : nodSz n (Trs.cons t .nil).sz (Trs.cons t .nil).len = t.sz + 2 := by unfold nodSz; rw [if_neg (by omega),if_neg (by omega),if_pos q6,sz_one]
   rw [hz] at hb;simp only [Trs.flat,Trs.zs,Trs.es,Trs.ok,List.append_nil] at hsl hsz hse hks hm;refine zQ 5 ?_;refine EvO.mulZ (z := (2 * n.cap)) rfl (ev rfl) (ev rfl) (by (try simp only [List.length_reverse,List.length_cons,List.length_nil,List.length_append,List.length_map,List.length_set]); rw [wrap_i64 (by omega) (by omega)] <;> omega) (put_T rfl _) ?_;refine EvO.go (d := .agg [.int .i64 4, .int .i64 (2 * n.cap), .int .i64 0, .nul]) (st1 := _) rfl rfl rfl (put_T rfl _) ?_;have hH := hH.nulE 2;obtain ⟨_,st,hev,rfl,cd,dk,hH⟩ := add_ev (rs := []) hF (by omega) hH;refine qv hev ?_;refine zQ 1 ?_;have hcl1 : (code ++ [mkI 4 (2 * n.cap) 0 []]).length = code.length + 1 := by simp
   refine zQ 5 ?_;obtain ⟨_,st,hev,rfl,cd,dk,hH⟩ := ih t (by omega) hF hnd hsl.tail hsz.tail hse.tail hks.1 (by omega) ⟨cd,dk,hH⟩;refine qv hev ?_;refine zQ 1 ?_;rw [hcl1] at hH;have hcl2 : (code ++ [mkI 4 (2 * n.cap) 0 []] ++ codeT t (code.length + 1)).length = code.length + 1 + t.sz := by rw [List.length_append,hcl1,codeT_len t _ hks.1]
   refine zQ 4 ?_;refine EvO.mulZ (z := (2 * n.cap)) rfl (ev rfl) (ev rfl) (by (try simp only [List.length_reverse,List.length_cons,List.length_nil,List.length_append,List.length_map,List.length_set]); rw [wrap_i64 (by omega) (by omega)] <;> omega) (put_T rfl _) ?_;refine EvO.addZ (z := (2 * n.cap + 1)) rfl (ev rfl) (ev rfl) (by (try simp only [List.length_reverse,List.length_cons,List.length_nil,List.length_append,List.length_map,List.length_set]); rw [wrap_i64 (by omega) (by omega)] <;> omega) (put_T rfl _) ?_;refine EvO.go (d := .agg [.int .i64 4, .int .i64 (2 * n.cap + 1), .int .i64 0, .nul]) (st1 := _) rfl rfl rfl (put_T rfl _) ?_;have hH := hH.nulE 2;obtain ⟨_,st,hev,rfl,cd,dk,hH⟩ := add_ev (rs := []) hF (by omega) hH;refine qv hev ?_;refine zQ 1 ?_;have hfin : code ++ [mkI 4 (2 * n.cap) 0 []] ++ codeT t (code.length + 1) ++ [mkI 4 (2 * n.cap + 1) 0 []] = code ++ mkI 4 (2 * n.cap) 0 [] :: (codeT t (code.length + 1) ++ [mkI 4 (2 * n.cap + 1) 0 []]) := by simp
   rw [hfin] at hH;refine ⟨fun i h => (by cases h),_,_,_,rfl,rfl,?_⟩;exact ⟨rfl,cd,dk,hH.erase 4⟩
  ·refine zQ 1 ?_;have hcT : codeT (.mk n ks) code.length = [] := by simp only [codeT,if_neg q2,if_neg q7,if_neg q8,if_neg q3,if_neg q4,if_neg q5,if_neg q6]
   rw [hcT,List.append_nil];refine ⟨fun i h => (by cases h),_,_,_,rfl,rfl,?_⟩;exact ⟨rfl,cd,dk,hH.erase 4⟩
end Go.Proofs.Ytapfahlbkhgdpaa
namespace Go.Proofs.Ytapfahlbkhgdpaa
open Go.V Go
def ixF_Qj (fr : Go.V.Fr) (k : Nat) : Go.V.D := Go.V.nth .junk fr.loc k
def nlC (x : Nl) : List D := [x.d]
theorem nl_get {l : List Nl} {i : Nat} {q : Nl} (h : l[i]? = some q) : (l.map nlC)[i]? = some (nlC q) := by rw [List.getElem?_map,h]; rfl
def compD (R : CompR) : D := .tup [(pgV R.code R.starts).d, .int .i64 R.e, .int .i64 R.w]
theorem spl_all {es M : List Int} (h : M.length = es.length) : spl es 0 M = M := by
 unfold spl; simp [h]
theorem compS_nil (r : Nat) (c : List PIns) (s : List Int) : compS [] r c s = ⟨c,s,0,0⟩ := by simp only [compS]
theorem compile_ev {s0 : St} {x : D} {rules : List Nl} (hx : V.Rows s0 1 x (rules.map nlC)) (hr : ∀ r ∈ rules,r.ok) (hl : rules.length <= 1048576) : Ev pv 10 [x] s0 (compD (compileS (rules.map (·.l)))) s0 := by
 refine Ev.mk1 rfl fi10 rfl rfl rfl ?_;refine zE ?_;obtain ⟨hSb,hF,hH⟩ := ri s0;generalize enterSt .ro s0 = S at *;have hx := Arg.of hx hSb;have hfz : ∀ (st : St) (e w : Int),freezeD st s0.bs.length false 16 (tupD [.agg [.nul, .nul], .int .i64 e, .int .i64 w]) = some (compD ⟨[], [],e,w⟩) := fun st e w => rfl;refine zQ 2 ?_;refine qa hH fun k2 st hk2 hH => ?_;refine zQ 7 ?_;refine qn ?_;simp only [List.length_map];refine zQ 2 ?_;unfold compileS
 by_cases h8 : 8 < rules.length
 ·rw [if_pos (by rw [List.length_map]; exact h8)];refine qD rfl (by simp; omega) ?_;refine zQ 2 ?_;refine EvO.go (d := .agg [.nul, .nul]) (st1 := _) rfl rfl rfl (by dsimp only [Fr.put,u1,u2] <;> rfl) ?_;refine qS hH at0 fun st hH => ?_;dsimp only [u2,u1,u3,u4,setMany,u5,u6,D.cells,Nat.reduceAdd,insC,nodC,intC,nlC] at hH;refine zQ 3 ?_;refine EvC.ret ⟨rx,_,hH.resCellTT rfl at0 rfl rfl rfl,rl hSb hH (hfz _ 13 8)⟩
 ·rw [if_neg (by rw [List.length_map]; exact h8)];refine qE rfl (by simp; omega) ?_;refine zQ 3 ?_;refine EvO.go (d := .agg [.nul, .nul, .nul, .nul]) (st1 := _) rfl rfl rfl (by dsimp only [Fr.put,u1,u2] <;> rfl) ?_;refine qb hH fun k14 st hk14 hH => ?_;refine zQ 10 ?_;refine qn ?_;simp only [List.length_map];refine zQ 2 ?_;have hH : Has s0.bs.length S st (.lst .nul 1 (([] : List Int).map intC) :: .deep (fun _ => False) .nul 4 (([] : List PIns).map insC) :: .box k14 (.mem 0 false [.nul, .nul, .nul, .nul]) :: [.box k2 (.mem 0 false [.nul, .nul])]) := (hH.nulD 4).nulE 1;refine zQ 1 ?_;refine EvC.loop (fun mm fr st => ∃ (r : Nat) (cd nd zd ed sd : D) (dk : Nat -> Prop) (code : List PIns) (starts : List Int),fr.clean = ⟨18, [ixF_Qj fr 0,ixF_Qj fr 1, .ptr k2 0 0, .int .i64 0, .int .i64 0, .ptr k14 0 0,sd,ixF_Qj fr 7,ixF_Qj fr 8,ixF_Qj fr 9,ixF_Qj fr 10,ixF_Qj fr 11,ixF_Qj fr 12,ixF_Qj fr 13,ixF_Qj fr 14,x, .int .i64 (rules.length : Nat), .int .i64 (r : Nat)], []⟩ /\ Has s0.bs.length S st [.lst sd 1 (starts.map intC), .deep dk cd 4 (code.map insC), .box k14 (.mem 0 false [cd,nd,zd,ed]), .box k2 (.mem 0 false [.nul, .nul])] /\ (r + mm = rules.length) /\ (compS ((rules.drop r).map (·.l)) r code starts = compS (rules.map (·.l)) 0 [] []) /\ (code.length <= 400) /\ (starts.length <= r)) (rules.length) ?_ ?_
  ·exact ⟨0, .nul, .nul, .nul, .nul, .nul,(fun _ => False), [], [],rfl,hH,by omega,by rw [List.drop_zero],by simp,by simp⟩
  rintro mm fr st ⟨r,cd,nd,zd,ed,sd,dk,code,starts,hfr,hH,hrr,hX,hcl,hst⟩;rw [hfr];clear hfr;generalize ixF_Qj fr = ee;clear fr;refine zQ 4 ?_
  by_cases hlt : r < rules.length
  ·obtain ⟨q,hq⟩ : ∃ q,rules[r]? = some q := ⟨rules[r]'hlt,List.getElem?_eq_getElem _⟩
   have hqo := hr q (List.mem_of_getElem? hq);have hr1 := nl_get hq
   have hdr : rules.drop r = q :: rules.drop (r + 1) := by
    rw [List.drop_eq_getElem_cons hlt]
    congr 1
    exact Option.some.inj ((List.getElem?_eq_getElem _).symm.trans hq)
   rw [hdr,List.map_cons,compS] at hX;refine qq ?_;refine qD rfl (by simp; omega) ?_;refine zQ 6 ?_;refine qr fun p20 hp20 => ?_;refine zQ 8 ?_;refine qv (rightL_ev hqo) ?_;refine zQ 2 ?_
   cases hright : rightN q.l with
   | false =>
    rw [if_pos hright] at hX;refine zQ 3 ?_;refine EvO.go (d := .agg [.nul, .nul]) (st1 := _) rfl rfl rfl (put_T rfl _) ?_;refine qm ?_;refine qS hH at3 fun st hH => ?_;dsimp only [u2,u1,u3,u4,setMany,u5,u6,D.cells,Nat.reduceAdd,insC,nodC,intC,nlC] at hH;refine zQ 3 ?_;rw [<- hX];refine EvC.ret ⟨rx,_,hH.resCellTT rfl at3 rfl rfl rfl,rl hSb hH (hfz _ 1 r)⟩
   | true =>
    rw [if_neg (by rw [hright]; simp)] at hX;obtain ⟨htok,htf⟩ := tree_is hright;have hqd := hqo.c.arg s0.bs.length S;have hqn := hqo.nl;have hcd := hqo.c;refine zQ 9 ?_;refine qn ?_;simp only [List.length_map];refine EvO.hmake (s := 1) hH rfl rfl rfl rfl rfl rfl rfl rfl (Nat.le_of_ble_eq_true rfl) (by omega) (fun _ => (put_T rfl _)) (fun k33 st hk33 hH => ?_);refine qm ?_;refine qn ?_;simp only [List.length_map];refine EvO.hmake (s := 1) hH rfl rfl rfl rfl rfl rfl rfl rfl (Nat.le_of_ble_eq_true rfl) (by omega) (fun _ => (put_T rfl _)) (fun k36 st hk36 hH => ?_);refine zQ 2 ?_;refine qT hH at4 fun st hH => ?_;dsimp only [u2,u1,u3,u4,setMany,u5,u6,D.cells,Nat.reduceAdd,insC,nodC,intC,nlC] at hH;refine zQ 2 ?_;refine qT hH at4 fun st hH => ?_;dsimp only [u2,u1,u3,u4,setMany,u5,u6,D.cells,Nat.reduceAdd,insC,nodC,intC,nlC] at hH;refine zQ 2 ?_;refine qT hH at4 fun st hH => ?_;dsimp only [u2,u1,u3,u4,setMany,u5,u6,D.cells,Nat.reduceAdd,insC,nodC,intC,nlC] at hH;refine zQ 1 ?_
    have hH : Has s0.bs.length S st (.lst (.win k33 0 0 q.l.length 1) 1 ((List.replicate q.l.length (0 : Int)).map intC) :: .lst (.win k36 0 0 q.l.length 1) 1 ((List.replicate q.l.length (0 : Int)).map intC) :: .lst sd 1 (starts.map intC) :: .deep dk cd 4 (code.map insC) :: .box k14 (.mem 0 false [cd,q.d, .win k33 0 0 q.l.length 1, .win k36 0 0 q.l.length 1]) :: .box k2 (.mem 0 false [.nul, .nul]) :: []) := by
     rw [List.map_replicate]; exact hH.front at1
    refine zQ 7 ?_;obtain ⟨_,st,hev,rfl,hH⟩ := sizes_ev hqo.nl hqo.i hqo.c _ (treeN q.l) (Nat.le_refl _) htok (at_ := 0) (by rw [htf]; exact Seg.all _) (by simp) hH;refine qv hev ?_;refine zQ 1 ?_;rw [spl_all (by rw [Tr.zs_len,htf]; simp)] at hH;have hH := hH.front at1;refine zQ 7 ?_;obtain ⟨_,st,hev,rfl,hH⟩ := ends_ev hqo.nl hqo.i hqo.c _ (treeN q.l) (Nat.le_refl _) htok (at_ := 0) (by rw [htf]; exact Seg.all _) (by simp) hH;refine qv hev ?_;refine zQ 1 ?_;rw [spl_all (by rw [Tr.es_len,htf]; simp)] at hH;have hr13 := int_get (zs_head (Seg.all (treeN q.l).zs));refine zQ 7 ?_;refine EvO.dlen hH rfl (ev rfl) (by exact at3) rfl (put_T rfl _) ?_;simp only [List.length_map];refine zQ 4 ?_;refine qi hH at1 fun p64 hp64 => ?_;refine zQ 1 ?_;refine EvO.addZ (z := ((code.length + min (treeN q.l).sz 401 : Nat) : Int)) rfl (ev rfl) (ev rfl) (by (try simp only [List.length_reverse,List.length_cons,List.length_nil,List.length_append,List.length_map,List.length_set]); rw [wrap_i64 (by omega) (by omega)] <;> omega) (put_T rfl _) ?_;refine EvO.addZ (z := ((code.length + min (treeN q.l).sz 401 + 3 : Nat) : Int)) rfl (ev rfl) (ev rfl) (by (try simp only [List.length_reverse,List.length_cons,List.length_nil,List.length_append,List.length_map,List.length_set]); rw [wrap_i64 (by omega) (by omega)] <;> omega) (put_T rfl _) ?_;refine zQ 2 ?_
    by_cases hbig : 400 < code.length + min (treeN q.l).sz 401 + 3
    ·rw [if_pos hbig] at hX;have hcc : decide (((code.length + min (treeN q.l).sz 401 + 3 : Nat) : Int) > 400) = true := by rw [decide_eq_true_eq]; omega
     refine qD rfl (by rw [hcc]) ?_;refine zQ 2 ?_;refine EvO.go (d := .agg [.nul, .nul]) (st1 := _) rfl rfl rfl (put_T rfl _) ?_;refine qm ?_;refine qS hH at5 fun st hH => ?_;dsimp only [u2,u1,u3,u4,setMany,u5,u6,D.cells,Nat.reduceAdd,insC,nodC,intC,nlC] at hH;refine zQ 3 ?_;rw [<- hX];refine EvC.ret ⟨rx,_,hH.resCellTT rfl at5 rfl rfl rfl,rl hSb hH (hfz _ 12 r)⟩
    ·rw [if_neg hbig] at hX;have hcc : decide (((code.length + min (treeN q.l).sz 401 + 3 : Nat) : Int) > 400) = false := by rw [decide_eq_false_iff_not]; omega
     refine qE rfl (by rw [hcc]) ?_;refine zQ 1 ?_;have hH := hH.front at1;have hH := hH.front at3;have hH := hH.front at4;have hH : Has s0.bs.length S st (.box k14 (.mem 0 false [cd,q.d, .win k33 0 0 q.l.length 1, .win k36 0 0 q.l.length 1]) :: .deep dk cd 4 (code.map insC) :: .lst (.win k33 0 0 q.l.length 1) 1 ((treeN q.l).zs.map intC) :: .lst (.win k36 0 0 q.l.length 1) 1 (((treeN q.l).es 0).map intC) :: .lst sd 1 (starts.map intC) :: .box k2 (.mem 0 false [.nul, .nul]) :: []) := hH;refine zQ 4 ?_;refine EvO.go (d := .agg [.int .i64 4, .int .i64 0, .int .i64 0, .nul]) (st1 := _) rfl rfl rfl (put_T rfl _) ?_;have hH := hH.nulE 2;obtain ⟨_,st,hev,rfl,cd,dk,hH⟩ := add_ev (rs := []) hF (by omega) hH;refine qv hev ?_;refine qh (s := 1) (vs := [_]) hH fun k75 st hk75 hH => ?_;refine EvO.happend (s := 1) hH rfl (ev rfl) (ev rfl) (by exact at5) (by exact hH.rows (by exact at0)) rfl rfl rfl rfl rfl rfl rfl ⟨(Nat.le_of_ble_eq_true rfl),(Nat.le_of_ble_eq_true rfl)⟩ (fun _ => (put_T rfl _)) (by simp only [List.length_cons,List.length_nil,List.length_map] <;> omega) (by exact .inl hF) (fun x76 st hH => ?_);dsimp only [u2,u1,u3,u4,setMany,u5,u6,D.cells,Nat.reduceAdd,insC,nodC,intC,nlC] at hH;refine zQ 2 ?_;have hH := hH.drop 1;have hcl1 : (code ++ [mkI 4 0 0 []]).length = code.length + 1 := by simp
     refine zQ 3 ?_;obtain ⟨_,st,hev,rfl,cd,dk,hH⟩ := node_ev hqo.nl hqo.i _ (treeN q.l) (Nat.le_refl _) hF hqo.c (at_ := 0) (by rw [htf]; exact Seg.all _) (Seg.all _) (Seg.all _) htok (by omega) ⟨cd,dk,hH⟩;refine qv hev ?_;refine zQ 1 ?_;rw [hcl1] at hH;have hcl2 : (code ++ [mkI 4 0 0 []] ++ codeT (treeN q.l) (code.length + 1)).length = code.length + 1 + (treeN q.l).sz := by rw [List.length_append,hcl1,codeT_len _ _ htok]
     refine zQ 3 ?_;refine EvO.go (d := .agg [.int .i64 4, .int .i64 1, .int .i64 0, .nul]) (st1 := _) rfl rfl rfl (put_T rfl _) ?_;have hH := hH.nulE 2;obtain ⟨_,st,hev,rfl,cd,dk,hH⟩ := add_ev (rs := []) hF (by omega) hH;refine qv hev ?_;refine zQ 1 ?_;have hcl3 : (code ++ [mkI 4 0 0 []] ++ codeT (treeN q.l) (code.length + 1) ++ [mkI 4 1 0 []]).length = code.length + 1 + (treeN q.l).sz + 1 := by rw [List.length_append,hcl2]; rfl
     refine zQ 3 ?_;refine EvO.go (d := .agg [.int .i64 7, .int .i64 (r : Nat), .int .i64 0, .nul]) (st1 := _) rfl rfl rfl (put_T rfl _) ?_;have hH := hH.nulE 2;obtain ⟨_,st,hev,rfl,cd,dk,hH⟩ := add_ev (rs := []) hF (by omega) hH;refine qv hev ?_;refine zQ 1 ?_
     have hrc : code ++ [mkI 4 0 0 []] ++ codeT (treeN q.l) (code.length + 1) ++ [mkI 4 1 0 []] ++ [mkI 7 (r : Nat) 0 []] = code ++ ruleC (treeN q.l) code.length r := by
      unfold ruleC; simp
     rw [hrc] at hH;have hH := (hH.erase 2).erase 2;have hH := hH.front at1;have hH := hH.front at2;refine zQ 4 ?_;exact ⟨mm - 1,by omega,⟨r + 1,cd,q.d, .win k33 0 0 q.l.length 1, .win k36 0 0 q.l.length 1,x76,dk,code ++ ruleC (treeN q.l) code.length r,starts ++ [((code.length : Nat) : Int)],rfl,(by rw [List.map_append (f := intC)]; exact hH),by omega,hX,by rw [List.length_append,ruleC_len htok]; omega,by rw [List.length_append]; simp only [List.length_cons,List.length_nil]; omega⟩⟩
  ·refine qq ?_;refine qE rfl (by simp; omega) ?_;refine zQ 1 ?_;rw [List.drop_of_length_le (by omega),List.map_nil,compS_nil] at hX;refine zQ 7 ?_;refine EvO.ones (qs := [(0,_),(1,_)]) rfl rfl rfl rfl ⟨rfl,(ev rfl),(by exact hH.dcells (by exact at1)),rfl,(ev rfl),(by exact hH.ocells (by exact at0)),trivial⟩ (by intro q hq; simp only [List.mem_cons,List.not_mem_nil,or_false] at hq; rcases hq with rfl | rfl <;> exact ⟨rfl,by exact Nat.le_of_ble_eq_true rfl⟩) (by show List.foldl _ [_,_] _ = _; dsimp only [List.foldl_cons,List.foldl_nil,u2,u1] <;> rfl) (put_T rfl _) ?_;refine qS hH at3 fun st hH => ?_;dsimp only [u2,u1,u3,u4,setMany,u5,u6,D.cells,Nat.reduceAdd,insC,nodC,intC,nlC] at hH;refine zQ 3 ?_;rw [<- hX];have h1 := hH.freezeDp at1 (n := 13) (by decide);have h2 := hH.freezeL at0 (int_plain _) (n := 14) (by decide)
   have h4 : freezeD st s0.bs.length false 15 (.agg [cd,sd]) = some (pgV code starts).d := by
    show (mapO (freezeD st s0.bs.length false 14) [cd,sd]).map D.agg = _;simp only [mapO,h1,h2,Option.map_some]; rfl
   have h3 : freezeD st s0.bs.length false 16 (tupD [.agg [cd,sd], .int .i64 0, .int .i64 0]) = some (compD ⟨code,starts,0,0⟩) := by
    show (mapO (freezeD st s0.bs.length false 15) [.agg [cd,sd], .int .i64 0, .int .i64 0]).map D.tup = _;simp only [mapO,h4]; rfl
   exact EvC.ret ⟨rx,_,hH.resCellTT rfl at3 rfl rfl rfl,rl hSb hH h3⟩
end Go.Proofs.Ytapfahlbkhgdpaa
namespace Go.Proofs.Ytapfahlbkhgdpaa
open Go.V Go
theorem compS_ok : ∀ (ls : List (List Nod)) (r : Nat) (c : List PIns) (s : List Int),(∀ l ∈ ls, ∀ n ∈ l,n.rs.length <= 1048576) -> (∀ i ∈ c,InsV i) -> c.length <= 400 -> s.length <= r -> (∀ i ∈ (compS ls r c s).code,InsV i) /\ (compS ls r c s).code.length <= 400 /\ (compS ls r c s).starts.length <= r + ls.length
 | [],r,c,s,_,h1,h2,h3 => by rw [compS_nil]; exact ⟨h1,h2,by simpa using h3⟩
 | l :: ls,r,c,s,h0,h1,h2,h3 => by
  have hem : ∀ e w : Int,(∀ i ∈ (CompR.mk [] [] e w).code,InsV i) /\ (CompR.mk [] [] e w).code.length <= 400 /\ (CompR.mk [] [] e w).starts.length <= r + (l :: ls).length := fun e w => ⟨fun i hi => (by cases hi),by simp,by simp⟩
  rw [compS]
  split
  ·exact hem _ _
  ·rename_i hr;rw [Bool.not_eq_false] at hr
   split
   ·exact hem _ _
   ·rename_i hb;obtain ⟨t1,t2⟩ := tree_is hr
    obtain ⟨h4,h5,h6⟩ := compS_ok ls (r + 1) (c ++ ruleC (treeN l) c.length r) (s ++ [((c.length : Nat) : Int)]) (fun l' hl' => h0 l' (List.mem_cons_of_mem _ hl')) (fun i hi => by
     rcases List.mem_append.1 hi with hi | hi
     ·exact h1 i hi
     ·exact ruleC_v (by rw [t2]; exact h0 l (List.mem_cons_self ..)) i hi) (by rw [List.length_append,ruleC_len t1]; omega) (by rw [List.length_append]; simp only [List.length_cons,List.length_nil]; omega)
    exact ⟨h4,h5,by simp only [List.length_cons]; omega⟩
theorem compileS_ok {ls : List (List Nod)} (h : ∀ l ∈ ls, ∀ n ∈ l,n.rs.length <= 1048576) : (pgV (compileS ls).code (compileS ls).starts).ok /\ (compileS ls).code.length <= 400 := by
 unfold compileS
 split
 ·exact ⟨pgV_ok (fun i hi => (by cases hi)) (by simp) (by simp),by simp⟩
 ·obtain ⟨h1,h2,h3⟩ := compS_ok ls 0 [] [] h (fun i hi => by cases hi) (by simp) (by simp);exact ⟨pgV_ok h1 (by omega) (by omega),h2⟩
end Go.Proofs.Ytapfahlbkhgdpaa
namespace Go.Proofs.Ytapfahlbkhgdpaa
open Go.V Go
def strC (b : List UInt8) : List D := [.str b]
theorem str_get {l : List (List UInt8)} {i : Nat} {q : List UInt8} (h : l[i]? = some q) : (l.map strC)[i]? = some (strC q) := by rw [List.getElem?_map,h]; rfl
theorem nls_ok {parts : List (List Nod)} (h : ∀ l ∈ parts,(∀ n ∈ l,NdV n) /\ l.length <= 500) : ∀ r ∈ parts.map (fun l => (⟨nlD l,l⟩ : Nl)),r.ok := by
 intro r hr;obtain ⟨l,hl,rfl⟩ := List.mem_map.1 hr;exact nl_ok (h l hl).1 (by have := (h l hl).2; omega)
theorem nls_rows {parts : List (List Nod)} : (parts.map (fun l => (⟨nlD l,l⟩ : Nl))).map nlC = parts.map partC := by
 rw [List.map_map]; rfl
theorem comp_parts {s0 : St} {y : D} {parts : List (List Nod)} (h : ∀ l ∈ parts,(∀ n ∈ l,NdV n) /\ l.length <= 500) (hl : parts.length <= 1048576) (hy : V.Rows s0 1 y (parts.map partC)) : Ev pv 10 [y] s0 (compD (compileS parts)) s0 /\ (pgV (compileS parts).code (compileS parts).starts).ok /\ (compileS parts).code.length <= 400 := by
 have h1 := compile_ev (s0 := s0) (x := y) (rules := parts.map (fun l => (⟨nlD l,l⟩ : Nl))) (by rw [nls_rows]; exact hy) (nls_ok h) (by rw [List.length_map]; exact hl);have h2 : (parts.map (fun l => (⟨nlD l,l⟩ : Nl))).map (·.l) = parts := by rw [List.map_map]; exact List.map_id _
 rw [h2] at h1;exact ⟨h1,compileS_ok fun l hl n hn => ((h l hl).1 n hn).2.1⟩
end Go.Proofs.Ytapfahlbkhgdpaa
namespace Go.Proofs.Ytapfahlbkhgdpaa
open Go.V Go Go.RowKit
variable {H : Type} {enc : TypeId × Value -> H} {w : World} {spare : Nat -> Bool} {held : Bool} {d : DataW H}
end Go.Proofs.Ytapfahlbkhgdpaa
namespace Go.Proofs.Ytapfahlbkhgdpaa
open Go.V Go
def ixF_Tb (fr : Go.V.Fr) (k : Nat) : Go.V.D := Go.V.nth .junk fr.loc k
inductive PR (α : Type) where
 | ok (a : α) (i : Nat)
 | er (e : Int) (w : Nat)
def notL : List Rg -> Int -> List Rg
 | [],n => [(n,1114111)]
 | q :: m,n => (n,wrapD .i32 (q.1 - 1)) :: notL m (wrapD .i32 (q.2 + 1))
noncomputable def notR (l : List Rg) : List Rg := makeR (notL (makeR l) 0)
theorem notL_len : ∀ (l : List Rg) (n : Int),(notL l n).length = l.length + 1
 | [],_ => rfl
 | q :: m,n => by simp only [notL,List.length_cons,notL_len m]
theorem notX_ev {s0 : St} {x : D} {l : List Rg} (hx : V.Rows s0 2 x (l.map rangeC)) (hl : l.length <= 131072) : Ev pv 68 [x] s0 (rangesV (notR l)) s0 /\ (notR l).length <= 4 * l.length + 2 := by
 suffices hg : ∃ d,Ev pv 68 [x] s0 d s0 /\ d = rangesV (notR l) /\ (notR l).length <= 4 * l.length + 2 by
  obtain ⟨d,h1,rfl,h2⟩ := hg;exact ⟨h1,h2⟩
 have hN : notR l = makeR (notL (makeR l) 0) := rfl;refine Ev.mkR rfl fi68 rfl rfl rfl ?_;refine zE ?_;obtain ⟨hSb,hF,hH⟩ := ri s0;generalize enterSt .ro s0 = S at *;have hx := Arg.of hx hSb;refine zQ 12 ?_;obtain ⟨hev,hml,_⟩ := mk_ev (hx.rows hH) (by omega);have hla := (ranges_sl (makeR l)).arg s0.bs.length S;generalize makeR l = m at *;refine zQ 4 ?_;refine qv (hev) ?_;refine qn ?_;simp only [List.length_map];refine zQ 2 ?_;have hH := hH.nulE 2;refine zQ 1 ?_;refine EvC.loop (fun mm fr st => ∃ (i : Nat) (n : Int) (o : D) (out : List Rg),fr.clean = ⟨11, [ixF_Tb fr 0,ixF_Tb fr 1,ixF_Tb fr 2,o, .int .i32 n,ixF_Tb fr 5,ixF_Tb fr 6,ixF_Tb fr 7,rangesV m, .int .i64 (m.length : Nat), .int .i64 (i : Nat)], []⟩ /\ Has s0.bs.length S st [.lst o 2 (out.map rangeC)] /\ (i + mm = m.length) /\ (out.length = i) /\ (out ++ notL (m.drop i) n = notL m 0)) (m.length) ?_ ?_
 ·exact ⟨0,0, .nul, [],rfl,hH,by omega,rfl,rfl⟩
 rintro mm fr st ⟨i,n,o,out,hfr,hH,hi,ho,hn⟩;rw [hfr];clear hfr;generalize ixF_Tb fr = ee;clear fr;refine zQ 5 ?_;refine zP (fun h1 => ?_) fun h1 => ?_
 ·refine zQ 1 ?_
  obtain ⟨q,hq⟩ : ∃ q,m[i]? = some q := ⟨m[i]'(by omega),List.getElem?_eq_getElem _⟩
  have hr := range_get hq
  have hdr : m.drop i = q :: m.drop (i + 1) := by
   have := List.drop_eq_getElem_cons (l := m) (i := i) (by omega);rw [this]; congr 1;rw [List.getElem?_eq_getElem (by omega)] at hq;exact Option.some.inj hq
  rw [hdr] at hn;refine zQ 4 ?_;refine qr fun p12 hp12 => ?_;refine EvO.rloadS rfl (ev rfl) (by assumption) rfl (put_T rfl _) ?_;refine qa hH fun k6 st hk6 hH => ?_;refine qS hH at0 fun st hH => ?_;dsimp only [u2,u1,u3,u4,setMany,u5,u6,D.cells,Nat.reduceAdd,rangeC] at hH;refine zQ 7 ?_;refine EvO.subZ (z := wrapD .i32 (q.1 - 1)) rfl (ev rfl) (ev rfl) rfl (put_T rfl _) ?_;refine EvO.ones (qs := [(0,_),(1,_)]) rfl rfl rfl rfl ⟨rfl,(ev rfl),(by rfl),rfl,(ev rfl),(by rfl),trivial⟩ (by intro q hq; simp only [List.mem_cons,List.not_mem_nil,or_false] at hq; rcases hq with rfl | rfl <;> exact ⟨rfl,by exact Nat.le_of_ble_eq_true rfl⟩) (by show List.foldl _ [_,_] _ = _; dsimp only [List.foldl_cons,List.foldl_nil,u2,u1] <;> rfl) (put_T rfl _) ?_;refine qh (s := 2) (vs := [_]) hH fun k20 st hk20 hH => ?_;refine EvO.happend (s := 2) hH rfl (ev rfl) (ev rfl) (by exact at2) (by exact hH.rows (by exact at0)) rfl rfl rfl rfl rfl rfl rfl ⟨(Nat.le_of_ble_eq_true rfl),(Nat.le_of_ble_eq_true rfl)⟩ (fun _ => (put_T rfl _)) (by simp only [List.length_cons,List.length_nil,List.length_map] <;> omega) (by exact .inl hF) (fun x21 st hH => ?_);dsimp only [u2,u1,u3,u4,setMany,u5,u6,D.cells,Nat.reduceAdd,rangeC] at hH;refine zQ 5 ?_;refine EvO.addZ (z := wrapD .i32 (q.2 + 1)) rfl (ev rfl) (ev rfl) rfl (put_T rfl _) ?_;refine zQ 6 ?_;exact ⟨mm - 1,by omega,⟨i + 1,_,_,out ++ [(n,wrapD .i32 (q.1 - 1))],rfl,(by rw [List.map_append]; exact hH.drop 2),by omega,by simp [ho],(by rw [<- hn,List.append_assoc]; rfl)⟩⟩
 ·refine zQ 1 ?_;have hi2 : m.drop i = [] := List.drop_eq_nil_of_le (by omega);rw [hi2] at hn;have hn : out ++ [(n,1114111)] = notL m 0 := hn;refine zQ 4 ?_;refine EvO.ones (qs := [(0,_),(1,_)]) rfl rfl rfl rfl ⟨rfl,(ev rfl),(by rfl),rfl,(ev rfl),(by rfl),trivial⟩ (by intro q hq; simp only [List.mem_cons,List.not_mem_nil,or_false] at hq; rcases hq with rfl | rfl <;> exact ⟨rfl,by exact Nat.le_of_ble_eq_true rfl⟩) (by show List.foldl _ [_,_] _ = _; dsimp only [List.foldl_cons,List.foldl_nil,u2,u1] <;> rfl) (put_T rfl _) ?_;refine qh (s := 2) (vs := [_]) hH fun k29 st hk29 hH => ?_;refine EvO.happend (s := 2) hH rfl (ev rfl) (ev rfl) (by exact at1) (by exact hH.rows (by exact at0)) rfl rfl rfl rfl rfl rfl rfl ⟨(Nat.le_of_ble_eq_true rfl),(Nat.le_of_ble_eq_true rfl)⟩ (fun _ => (put_T rfl _)) (by simp only [List.length_cons,List.length_nil,List.length_map] <;> omega) (by exact .inl hF) (fun x30 st hH => ?_);dsimp only [u2,u1,u3,u4,setMany,u5,u6,D.cells,Nat.reduceAdd,rangeC] at hH;obtain ⟨hev,hl2,_⟩ := mk_ev (l := out ++ [(n,1114111)]) (by rw [List.map_append]; exact hH.rows at1) (by simp; omega);refine qv hev ?_;refine zQ 2 ?_;rw [hn] at hl2 ⊢;refine EvC.ret ⟨rx,_,_,rfl,rl hSb hH (rfl),?_⟩;rw [notL_len] at hl2;exact ⟨by rw [hN]; rfl,by rw [hN]; omega⟩
noncomputable def dotR : List Rg := notR [(10,10)]
theorem dotX_ev {s0 : St} : Ev pv 60 [] s0 (rangesV dotR) s0 /\ dotR.length <= 6 := by
 have hl : (notR [(10,10)]).length <= 4 * 1 + 2 := (notX_ev (s0 := s0) (ranges_sl [(10,10)] |>.rows s0) (by simp)).2;refine ⟨?_,hl⟩;unfold dotR;refine Ev.mk1 rfl fi60 rfl rfl rfl ?_;refine zE ?_;obtain ⟨hSb,hF,hH⟩ := ri s0;generalize enterSt .ro s0 = S at *;refine zQ 6 ?_;refine EvO.ones (qs := [(0,_),(1,_)]) rfl rfl rfl rfl ⟨rfl,(ev rfl),(by rfl),rfl,(ev rfl),(by rfl),trivial⟩ (by intro q hq; simp only [List.mem_cons,List.not_mem_nil,or_false] at hq; rcases hq with rfl | rfl <;> exact ⟨rfl,by exact Nat.le_of_ble_eq_true rfl⟩) (by show List.foldl _ [_,_] _ = _; dsimp only [List.foldl_cons,List.foldl_nil,u2,u1] <;> rfl) (put_T rfl _) ?_;refine qh (s := 2) (vs := [_]) hH fun k2 st hk2 hH => ?_;obtain ⟨hev,_⟩ := notX_ev (l := [(10,10)]) (hH.rows at0) (by simp);refine qv hev ?_;refine zQ 2 ?_;refine EvC.ret ⟨rx,_,rfl,rl hSb hH (rfl)⟩
def lessB (a b : List UInt8) : Bool := decide ((a.length : Int) < b.length) || (((a.length : Int) == b.length) && Op.bytesLess a b)
theorem lessX_ev {s0 : St} (a b : List UInt8) : Ev pv 63 [.str a, .str b] s0 (.bool (lessB a b)) s0 := by
 unfold lessB;refine Ev.mk1 rfl fi63 rfl rfl rfl ?_;refine zE ?_;obtain ⟨hSb,hF,hH⟩ := ri s0;generalize enterSt .ro s0 = S at *;refine zQ 5 ?_;refine EvC.cutL 4 (.bool (decide ((a.length : Int) < b.length) || (((a.length : Int) == b.length) && Op.bytesLess a b))) [] ?_ (fun ff tmp => ?_)
 ·refine qm ?_;refine EvO.slen rfl rfl rfl (put_T rfl _) ?_;refine qm ?_;refine EvO.slen rfl rfl rfl (put_T rfl _) ?_;refine zQ 2 ?_;refine EvO.two 10 rfl (fun hg5 => ?_) (fun hg5 => ?_)
  ·refine zQ 12 ?_;refine EvO.nil (leafL ?_);refine zG ?_
   all_goals (simp_all; done)
  ·refine zQ 1 ?_;refine EvO.slen (wantD_is rfl rfl rfl hg5) rfl rfl (put_T rfl _) ?_;refine zQ 1 ?_;refine EvO.slen (wantD_is rfl rfl rfl hg5) rfl rfl (put_T rfl _) ?_;refine zQ 2 ?_;refine EvO.two 16 rfl (fun hg11 => ?_) (fun hg11 => ?_)
   ·refine zQ 3 ?_;refine EvO.pickT (wantD_is rfl rfl rfl hg5) rfl hg11 (put_T rfl _) ?_;refine zQ 2 ?_;refine EvO.nil (leafL ?_);refine zG ?_
    all_goals (simp_all; done)
   ·refine zQ 3 ?_;refine EvO.pickF (wantD_is rfl rfl rfl hg5) rfl hg11 (put_T rfl _) ?_;refine zQ 2 ?_;refine EvO.nil (leafL ?_);refine zG ?_
    all_goals (simp_all; done)
 dsimp only [setW,List.foldl,nth,u2,u1];refine EvC.ret ⟨rx,_,rfl,rl hSb hH (rfl)⟩
def valL : List UInt8 -> Int -> Int
 | [],n => n
 | c :: l,n => valL l (wrapD .i64 (wrapD .i64 (10 * n) + wrapD .i64 (wrapD .u8 ((c.toNat : Nat) - 48))))
def valF (b : List UInt8) : Int × Bool := if 2 < b.length then (0,false) else (valL b 0,decide (valL b 0 <= 30))
theorem valueX_ev {s0 : St} (b : List UInt8) (hb : b.length <= 1048576) : Ev pv 64 [.str b] s0 (.tup [.int .i64 (valF b).1, .bool (valF b).2]) s0 := by
 suffices hg : ∃ d,Ev pv 64 [.str b] s0 d s0 /\ d = .tup [.int .i64 (valF b).1, .bool (valF b).2] by
  obtain ⟨d,h1,rfl⟩ := hg;exact h1
 unfold valF;refine Ev.mkR rfl fi64 rfl rfl rfl ?_;refine zE ?_;obtain ⟨hSb,hF,hH⟩ := ri s0;generalize enterSt .ro s0 = S at *;refine zQ 9 ?_;refine EvO.slen rfl rfl rfl (by dsimp only [Fr.put,u1,u2] <;> rfl) ?_;refine zQ 2 ?_;refine zP (fun h0 => ?_) fun h0 => ?_
 ·rw [if_pos (by omega)];refine zQ 5 ?_;refine EvC.ret ⟨rx,_,_,rfl,rl hSb hH (rfl),?_⟩
  rfl
 ·rw [if_neg (by omega)];refine zQ 9 ?_;refine EvO.slen rfl rfl rfl (by dsimp only [Fr.put,u1,u2] <;> rfl) ?_;refine zQ 3 ?_;refine EvC.loop (fun mm fr st => ∃ (i : Nat) (n : Int),fr.clean = ⟨12, [.str b,ixF_Tb fr 1,ixF_Tb fr 2,ixF_Tb fr 3, .int .i64 n,ixF_Tb fr 5,ixF_Tb fr 6,ixF_Tb fr 7,ixF_Tb fr 8,ixF_Tb fr 9, .int .i64 (b.length : Nat), .int .i64 (i : Nat)], []⟩ /\ Has s0.bs.length S st [] /\ (i + mm = b.length) /\ (valL (b.drop i) n = valL b 0)) (b.length) ?_ ?_
  ·exact ⟨0,0,rfl,hH,by omega,rfl⟩
  rintro mm fr st ⟨i,n,hfr,hH,hi,hn⟩;rw [hfr];clear hfr;generalize ixF_Tb fr = ee;clear fr;refine zQ 5 ?_;refine zP (fun h1 => ?_) fun h1 => ?_
  ·refine zQ 1 ?_
   obtain ⟨c,hc⟩ : ∃ c,b[i]? = some c := ⟨b[i]'(by omega),List.getElem?_eq_getElem _⟩
   have hdr : b.drop i = c :: b.drop (i + 1) := by
    have := List.drop_eq_getElem_cons (l := b) (i := i) (by omega);rw [this]; congr 1;rw [List.getElem?_eq_getElem (by omega)] at hc;exact Option.some.inj hc
   rw [hdr] at hn;refine zQ 9 ?_;refine EvO.mulZ (z := wrapD .i64 (10 * n)) rfl (ev rfl) (ev rfl) rfl (put_T rfl _) ?_;refine zQ 2 ?_;refine EvO.sidx rfl (ev rfl) (ev rfl) rfl (by assumption) (put_T rfl _) ?_;refine EvO.go (d := .int .u8 (wrapD .u8 ((c.toNat : Nat) - 48))) (st1 := _) rfl rfl rfl (put_T rfl _) ?_;refine qg ?_;refine EvO.addZ (z := wrapD .i64 (wrapD .i64 (10 * n) + wrapD .i64 (wrapD .u8 ((c.toNat : Nat) - 48)))) rfl (ev rfl) (ev rfl) rfl (put_T rfl _) ?_;refine zQ 6 ?_;exact ⟨mm - 1,by omega,⟨i + 1,_,rfl,hH,by omega,hn⟩⟩
  ·refine zQ 1 ?_;have hi2 : b.drop i = [] := List.drop_eq_nil_of_le (by omega);rw [hi2] at hn;have hn : n = valL b 0 := hn;rw [<- hn];refine zQ 8 ?_;refine EvC.ret ⟨rx,_,_,rfl,rl hSb hH (rfl),?_⟩
   rfl
end Go.Proofs.Ytapfahlbkhgdpaa
namespace Go.Proofs.Ytapfahlbkhgdpaa
open Go.V Go
def ErrX {α : Type} (R : PR α) (pls : List Int) (s' : Prs) : Prop := ∃ e w,R = .er e w /\ e ≠ 0 /\ s'.e = e /\ s'.w = pls.getD w 0
theorem ErrX.ne {α : Type} {R : PR α} {pls : List Int} {s' : Prs} (h : ErrX R pls s') : s'.e ≠ 0 := by
 obtain ⟨e,w,_,h1,h2,_⟩ := h;rw [h2]; exact h1
theorem ErrX.map {α β : Type} {R : PR α} {R' : PR β} {pls : List Int} {s' : Prs} (h : ErrX R pls s') (hR : ∀ e w,R = .er e w -> R' = .er e w) : ErrX R' pls s' := by
 obtain ⟨e,w,h0,h1,h2,h3⟩ := h;exact ⟨e,w,hR e w h0,h1,h2,h3⟩
theorem wrong_x {α : Type} {R : PR α} {pls : List Int} {s : Prs} {i : Nat} {e : Int} (he : s.e = 0) (h : e ≠ 0) (hR : R = .er e i) : ErrX R pls (wrongS pls s i e) /\ (wrongS pls s i e).i = s.i /\ (wrongS pls s i e).o = s.o /\ (wrongS pls s i e).g = s.g := by
 unfold wrongS; rw [if_pos he]; exact ⟨⟨e,i,hR,h,rfl,rfl⟩,rfl,rfl,rfl⟩
def rsF (gs : List (Nat × Nat)) (i : Nat) : List Int := (gs.map fun g => ((g.1 : Nat) : Int)).drop i
theorem digitsX_ev {N k : Nat} {S s0 : St} {H : List Ent} {gs : List (Nat × Nat)} {plD : D} {s : Prs} (hgl : gs.length <= 120) (hi : s.i <= gs.length) (hne : gs ≠ []) (hH : Has N S s0 (.box k (.mem 0 false (prsC gs plD s)) :: H)) :
  ∃ d st',Ev pv 62 [.ptr k 0 0] s0 d st' /\ d = .tup [.str (digS (rsF gs s.i) []).1, .bool (decide (0 < (digS (rsF gs s.i) []).2))] /\ (digS (rsF gs s.i) []).1.length <= 120 /\ s.i + (digS (rsF gs s.i) []).2 <= gs.length /\ Has N S st' (.box k (.mem 0 false (prsC gs plD { s with i := s.i + (digS (rsF gs s.i) []).2 })) :: H) := by
 have hb := hH.at at0;have hw := canW_has (cs := [.int .i64 0]) hH (hH.ge at0).1 (.inr rfl);have hl := digS_len (rsF gs s.i) [];unfold rsF at *;obtain ⟨h1,h2⟩ := hl;simp only [List.length_drop,List.length_map,List.length_nil] at h1 h2;refine ⟨_,_,Ev.prim rfl ?_,rfl,by omega,by omega,hH.setBox (ver := 0) at0⟩
 have hd : decide ((gs.map fun g => ((g.1 : Nat) : Int)) ≠ [] /\ (0 : Int) <= (s.i : Nat) /\ ((s.i : Nat) : Int).toNat <= (gs.map fun g => ((g.1 : Nat) : Int)).length /\ (gs.map fun g => ((g.1 : Nat) : Int)).length < 1099511627776) = true := by
  rw [decide_eq_true];refine ⟨by simpa using hne,by omega,by simp; omega,by simp; omega⟩
 show digP [.ptr k 0 0] s0 = _;simp only [digP,St.mem_of hb];show (match runesD ((gs.map gotC).map (elD 2)) with | some rs => digQ s0 k 0 0 rs (s.i : Nat) | none => none) = _;rw [runesD_gots];simp only [digQ,hd];have hwr := wr_own (cs := [.int .i64 ((s.i + (digS ((gs.map fun g => ((g.1 : Nat) : Int)).drop s.i) []).2 : Nat))]) (off := 2) hb (by show 2 + 1 <= 7; omega) hw;simp only [Int.toNat_natCast,Nat.zero_add];rw [hwr]
 rfl
noncomputable def signF (gs : List (Nat × Nat)) (f : Nat) : PR (List Rg × Bool) :=
 match gs[f + 1]? with
 | none => .er 4 f
 | some g =>
  if badS gs (f + 1) = true then .er 4 (f + 1)
  else if ((g.1 : Nat) : Int) = 110 then .ok (makeR [(10,10)],true) (f + 2)
  else if ((g.1 : Nat) : Int) = 116 then .ok (makeR [(9,9)],true) (f + 2)
  else if ((g.1 : Nat) : Int) = 114 then .ok (makeR [(13,13)],true) (f + 2)
  else if ((g.1 : Nat) : Int) = 100 then .ok (makeR [(48,57)],false) (f + 2)
  else if ((g.1 : Nat) : Int) = 115 then .ok (makeR [(9,10),(13,13),(32,32)],false) (f + 2)
  else if ((g.1 : Nat) : Int) = 119 then .ok (makeR [(48,57),(65,90),(95,95),(97,122)],false) (f + 2)
  else if (33 <= ((g.1 : Nat) : Int) /\ ((g.1 : Nat) : Int) <= 47 \/ 58 <= ((g.1 : Nat) : Int) /\ ((g.1 : Nat) : Int) <= 64 \/ 91 <= ((g.1 : Nat) : Int) /\ ((g.1 : Nat) : Int) <= 96 \/ 123 <= ((g.1 : Nat) : Int) /\ ((g.1 : Nat) : Int) <= 126) then .ok (makeR [(((g.1 : Nat) : Int),((g.1 : Nat) : Int))],true) (f + 2)
  else .er 4 f
def SignX (gs : List (Nat × Nat)) (pls : List Int) (R : PR (List Rg × Bool)) (s s' : Prs) (d1 : D) (b : Bool) : Prop :=
 s'.o = s.o /\ s'.g = s.g /\ s.i <= s'.i /\ s'.i <= gs.length /\ (ErrX R pls s' /\ d1 = .nul \/ s'.e = 0 /\ s.i < s'.i /\ ∃ a,R = .ok (a,b) s'.i /\ d1 = rangesV a /\ a.length <= 8 /\ a ≠ [])
theorem signX_ev {N k : Nat} {S s0 : St} {H : List Ent} {gs : List (Nat × Nat)} {plD : D} {pls : List Int} {s : Prs} (hok : PrsOk gs pls) (he : s.e = 0) (hi : s.i < gs.length) (hH : Has N S s0 (.box k (.mem 0 false (prsC gs plD s)) :: .lst plD 1 (pls.map intC) :: H)) :
  ∃ d st',Ev pv 59 [.ptr k 0 0] s0 d st' /\ ∃ (d1 : D) (b : Bool) (s' : Prs),d = .tup [d1, .bool b] /\ SignX gs pls (signF gs s.i) s s' d1 b /\ Has N S st' (.box k (.mem 0 false (prsC gs plD s')) :: .lst plD 1 (pls.map intC) :: H) := by
 have hgl := hok.gl;have hpl := hok.pl;refine Ev.mkE rfl fi59 rfl rfl rfl ?_;refine zE ?_;have hH0 := hH;have hH := hH.enterRw;have hS2 : (enterSt .rw s0).bs = s0.bs := rfl;generalize enterSt .rw s0 = S2 at *;have hgr : Arg N S2 2 (gotsD gs) (gs.map gotC) := Arg.pure (fun st => gots_rows st gs);refine zQ 22 ?_;refine qT hH at0 fun st hH => ?_;dsimp only [u2,u1,u3,u4,setMany,u5,u6,D.cells,Nat.reduceAdd,prsC,gotC,intC,rangeC] at hH;refine zQ 12 ?_;refine qn ?_;simp only [List.length_map];refine zQ 2 ?_;refine zP (fun h0 => ?_) fun h0 => ?_
 ·have hv : signF gs s.i = .er 4 s.i := by
   unfold signF; rw [List.getElem?_eq_none (by omega)]
  refine zQ 4 ?_;obtain ⟨_,st,hev,rfl,hH⟩ := wrong_ev (s := { s with i := s.i + 1 }) s.i 4 (by omega) hH;refine qv hev ?_;refine zQ 6 ?_;obtain ⟨h1,h2,h3,h4⟩ := wrong_x (pls := pls) (s := { s with i := s.i + 1 }) (i := s.i) (e := 4) he (by decide) hv;refine EvC.ret ⟨rx,_,_,_,rfl,leaveD_rw (rfl),?_⟩;exact ⟨_,_,_,rfl,⟨h3,h4,by rw [h2]; simp,by rw [h2]; exact hi, .inl ⟨h1,rfl⟩⟩,hH0.leaveRw1 hS2 hH⟩
 ·obtain ⟨g,hg⟩ : ∃ g,gs[s.i + 1]? = some g := ⟨gs[s.i + 1]'(by omega),List.getElem?_eq_getElem _⟩
  have hr1 : (gs.map gotC)[s.i + 1]? = some (gotC g) := by rw [List.getElem?_map,hg]; rfl
  have hlt := lt_get hg;have hv : signF gs s.i = signF gs s.i := rfl
  conv at hv => rhs; unfold signF; simp only [hg]
  refine zQ 9 ?_;obtain ⟨_,st,hev,rfl,hH⟩ := bad_ev (s := { s with i := s.i + 1 }) (s.i + 1) hlt hH;refine qv hev ?_;refine zQ 1 ?_;dsimp only [prsC] at hH;refine qc (fun hb => ?_) (fun hb => ?_) <;> try simp only [cs] at hb
  ·rw [if_pos hb] at hv;refine zQ 7 ?_;obtain ⟨_,st,hev,rfl,hH⟩ := wrong_ev (s := { s with i := s.i + 1 }) (s.i + 1) 4 (by omega) hH;refine qv hev ?_;refine zQ 6 ?_;obtain ⟨h1,h2,h3,h4⟩ := wrong_x (pls := pls) (s := { s with i := s.i + 1 }) (i := s.i + 1) (e := 4) he (by decide) hv;refine EvC.ret ⟨rx,_,_,_,rfl,leaveD_rw (rfl),?_⟩;exact ⟨_,_,_,rfl,⟨h3,h4,by rw [h2]; simp,by rw [h2]; exact hi, .inl ⟨h1,rfl⟩⟩,hH0.leaveRw1 hS2 hH⟩
  ·rw [if_neg (by rw [hb]; simp)] at hv;refine zQ 11 ?_;refine qr fun p50 hp50 => ?_;refine qf (fo := 0) fun p51 hp51 => ?_;refine zQ 12 ?_;refine qT hH at0 fun st hH => ?_;dsimp only [u2,u1,u3,u4,setMany,u5,u6,D.cells,Nat.reduceAdd,prsC,gotC,intC,rangeC] at hH;refine zQ 6 ?_
   have hfin : ∀ (a : List Rg) (b : Bool),signF gs s.i = .ok (a,b) (s.i + 2) -> a.length <= 8 -> a ≠ [] -> SignX gs pls (signF gs s.i) s { s with i := s.i + 1 + 1 } (rangesV a) b := fun a b h0 h1 h2 => ⟨rfl,rfl,by show s.i <= s.i + 1 + 1; omega,by show s.i + 1 + 1 <= _; omega, .inr ⟨he,by show s.i < s.i + 1 + 1; omega,a,h0,rfl,h1,h2⟩⟩
   have hone : ∀ (r : Int),0 <= r -> r < 55296 -> (makeR [(r,r)]).length <= 8 /\ makeR [(r,r)] ≠ [] := by
    intro r h1 h2;obtain ⟨_,h3,h4⟩ := mk_ev (s0 := s0) (x := rangesV [(r,r)]) (l := [(r,r)]) (rangesV_rows _ _) (by simp);exact ⟨by simp at h3; omega,make_single h1 h2 h4⟩
   refine zQ 6 ?_;refine zI (fun q1 => ?_) fun q1 => ?_
   ·rw [if_pos q1] at hv;refine zQ 2 ?_;refine qv (single_ev 10) ?_;refine zQ 3 ?_;refine EvC.ret ⟨rx,_,_,_,rfl,leaveD_rw (rfl),?_⟩;exact ⟨_,_,_,rfl,hfin _ _ hv (hone 10 (by decide) (by decide)).1 (hone 10 (by decide) (by decide)).2,hH0.leaveRw1 hS2 hH⟩
   ·rw [if_neg q1] at hv;refine zQ 5 ?_;refine zI (fun q2 => ?_) fun q2 => ?_
    ·rw [if_pos q2] at hv;refine zQ 2 ?_;refine qv (single_ev 9) ?_;refine zQ 3 ?_;refine EvC.ret ⟨rx,_,_,_,rfl,leaveD_rw (rfl),?_⟩;exact ⟨_,_,_,rfl,hfin _ _ hv (hone 9 (by decide) (by decide)).1 (hone 9 (by decide) (by decide)).2,hH0.leaveRw1 hS2 hH⟩
    ·rw [if_neg q2] at hv;refine zQ 5 ?_;refine zI (fun q3 => ?_) fun q3 => ?_
     ·rw [if_pos q3] at hv;refine zQ 2 ?_;refine qv (single_ev 13) ?_;refine zQ 3 ?_;refine EvC.ret ⟨rx,_,_,_,rfl,leaveD_rw (rfl),?_⟩;exact ⟨_,_,_,rfl,hfin _ _ hv (hone 13 (by decide) (by decide)).1 (hone 13 (by decide) (by decide)).2,hH0.leaveRw1 hS2 hH⟩
     ·rw [if_neg q3] at hv;refine zQ 5 ?_;refine zI (fun q4 => ?_) fun q4 => ?_
      ·rw [if_pos q4] at hv;refine zQ 2 ?_;refine EvO.ones (qs := [(0,_),(1,_)]) rfl rfl rfl rfl ⟨rfl,(ev rfl),(by rfl),rfl,(ev rfl),(by rfl),trivial⟩ (by intro q hq; simp only [List.mem_cons,List.not_mem_nil,or_false] at hq; rcases hq with rfl | rfl <;> exact ⟨rfl,by exact Nat.le_of_ble_eq_true rfl⟩) (by show List.foldl _ [_,_] _ = _; dsimp only [List.foldl_cons,List.foldl_nil,u2,u1] <;> rfl) (put_T rfl _) ?_;refine qh (s := 2) (vs := [_]) hH fun k73 st hk73 hH => ?_;obtain ⟨hev,hl,hmk⟩ := mk_ev (l := [(48,57)]) (hH.rows at0) (by simp);refine qv hev ?_;refine zQ 3 ?_;refine EvC.ret ⟨rx,_,_,_,rfl,leaveD_rw (rfl),?_⟩;exact ⟨_,_,_,rfl,hfin _ _ hv (by simp at hl; omega) (make_ne (r := 48) (by decide) (by decide) ⟨_,List.mem_cons_self ..,by decide,by decide⟩ hmk),hH0.leaveRw1 hS2 (hH.drop 1)⟩
      ·rw [if_neg q4] at hv;refine zQ 5 ?_;refine zI (fun q5 => ?_) fun q5 => ?_
       ·rw [if_pos q5] at hv;refine zQ 2 ?_;refine EvO.ones (qs := [(0,_),(1,_)]) rfl rfl rfl rfl ⟨rfl,(ev rfl),(by rfl),rfl,(ev rfl),(by rfl),trivial⟩ (by intro q hq; simp only [List.mem_cons,List.not_mem_nil,or_false] at hq; rcases hq with rfl | rfl <;> exact ⟨rfl,by exact Nat.le_of_ble_eq_true rfl⟩) (by show List.foldl _ [_,_] _ = _; dsimp only [List.foldl_cons,List.foldl_nil,u2,u1] <;> rfl) (put_T rfl _) ?_;refine EvO.ones (qs := [(0,_),(1,_)]) rfl rfl rfl rfl ⟨rfl,(ev rfl),(by rfl),rfl,(ev rfl),(by rfl),trivial⟩ (by intro q hq; simp only [List.mem_cons,List.not_mem_nil,or_false] at hq; rcases hq with rfl | rfl <;> exact ⟨rfl,by exact Nat.le_of_ble_eq_true rfl⟩) (by show List.foldl _ [_,_] _ = _; dsimp only [List.foldl_cons,List.foldl_nil,u2,u1] <;> rfl) (put_T rfl _) ?_;refine EvO.ones (qs := [(0,_),(1,_)]) rfl rfl rfl rfl ⟨rfl,(ev rfl),(by rfl),rfl,(ev rfl),(by rfl),trivial⟩ (by intro q hq; simp only [List.mem_cons,List.not_mem_nil,or_false] at hq; rcases hq with rfl | rfl <;> exact ⟨rfl,by exact Nat.le_of_ble_eq_true rfl⟩) (by show List.foldl _ [_,_] _ = _; dsimp only [List.foldl_cons,List.foldl_nil,u2,u1] <;> rfl) (put_T rfl _) ?_;refine qh (s := 2) (vs := [_,_,_]) hH fun k80 st hk80 hH => ?_;obtain ⟨hev,hl,hmk⟩ := mk_ev (l := [(9,10),(13,13),(32,32)]) (hH.rows at0) (by simp);refine qv hev ?_;refine zQ 3 ?_;refine EvC.ret ⟨rx,_,_,_,rfl,leaveD_rw (rfl),?_⟩;exact ⟨_,_,_,rfl,hfin _ _ hv (by simp at hl; omega) (make_ne (r := 9) (by decide) (by decide) ⟨_,List.mem_cons_self ..,by decide,by decide⟩ hmk),hH0.leaveRw1 hS2 (hH.drop 1)⟩
       ·rw [if_neg q5] at hv;refine zQ 5 ?_;refine zI (fun q6 => ?_) fun q6 => ?_
        ·rw [if_pos q6] at hv;refine zQ 2 ?_;refine EvO.ones (qs := [(0,_),(1,_)]) rfl rfl rfl rfl ⟨rfl,(ev rfl),(by rfl),rfl,(ev rfl),(by rfl),trivial⟩ (by intro q hq; simp only [List.mem_cons,List.not_mem_nil,or_false] at hq; rcases hq with rfl | rfl <;> exact ⟨rfl,by exact Nat.le_of_ble_eq_true rfl⟩) (by show List.foldl _ [_,_] _ = _; dsimp only [List.foldl_cons,List.foldl_nil,u2,u1] <;> rfl) (put_T rfl _) ?_;refine EvO.ones (qs := [(0,_),(1,_)]) rfl rfl rfl rfl ⟨rfl,(ev rfl),(by rfl),rfl,(ev rfl),(by rfl),trivial⟩ (by intro q hq; simp only [List.mem_cons,List.not_mem_nil,or_false] at hq; rcases hq with rfl | rfl <;> exact ⟨rfl,by exact Nat.le_of_ble_eq_true rfl⟩) (by show List.foldl _ [_,_] _ = _; dsimp only [List.foldl_cons,List.foldl_nil,u2,u1] <;> rfl) (put_T rfl _) ?_;refine EvO.ones (qs := [(0,_),(1,_)]) rfl rfl rfl rfl ⟨rfl,(ev rfl),(by rfl),rfl,(ev rfl),(by rfl),trivial⟩ (by intro q hq; simp only [List.mem_cons,List.not_mem_nil,or_false] at hq; rcases hq with rfl | rfl <;> exact ⟨rfl,by exact Nat.le_of_ble_eq_true rfl⟩) (by show List.foldl _ [_,_] _ = _; dsimp only [List.foldl_cons,List.foldl_nil,u2,u1] <;> rfl) (put_T rfl _) ?_;refine EvO.ones (qs := [(0,_),(1,_)]) rfl rfl rfl rfl ⟨rfl,(ev rfl),(by rfl),rfl,(ev rfl),(by rfl),trivial⟩ (by intro q hq; simp only [List.mem_cons,List.not_mem_nil,or_false] at hq; rcases hq with rfl | rfl <;> exact ⟨rfl,by exact Nat.le_of_ble_eq_true rfl⟩) (by show List.foldl _ [_,_] _ = _; dsimp only [List.foldl_cons,List.foldl_nil,u2,u1] <;> rfl) (put_T rfl _) ?_;refine qh (s := 2) (vs := [_,_,_,_]) hH fun k88 st hk88 hH => ?_;obtain ⟨hev,hl,hmk⟩ := mk_ev (l := [(48,57),(65,90),(95,95),(97,122)]) (hH.rows at0) (by simp);refine qv hev ?_;refine zQ 3 ?_;refine EvC.ret ⟨rx,_,_,_,rfl,leaveD_rw (rfl),?_⟩;exact ⟨_,_,_,rfl,hfin _ _ hv (by simp at hl; omega) (make_ne (r := 48) (by decide) (by decide) ⟨_,List.mem_cons_self ..,by decide,by decide⟩ hmk),hH0.leaveRw1 hS2 (hH.drop 1)⟩
        ·rw [if_neg q6] at hv;refine zQ 5 ?_;refine qv (mark_ev _) ?_;refine zQ 2 ?_;refine EvC.cond (by rfl) (fun q7 => ?_) (fun q7 => ?_) <;> try simp only [decide_eq_true_eq,decide_eq_false_iff_not,Bool.not_eq_true',Bool.not_eq_false'] at q7
         ·rw [if_neg q7] at hv;refine zQ 4 ?_;obtain ⟨_,st,hev,rfl,hH⟩ := wrong_ev (s := { s with i := s.i + 1 + 1 }) s.i 4 (by omega) hH;refine qv hev ?_;refine zQ 6 ?_;obtain ⟨h1,h2,h3,h4⟩ := wrong_x (pls := pls) (s := { s with i := s.i + 1 + 1 }) (i := s.i) (e := 4) he (by decide) hv;refine EvC.ret ⟨rx,_,_,_,rfl,leaveD_rw (rfl),?_⟩;exact ⟨_,_,_,rfl,⟨h3,h4,by rw [h2]; show s.i <= s.i + 1 + 1; omega,by rw [h2]; show s.i + 1 + 1 <= _; omega, .inl ⟨h1,rfl⟩⟩,hH0.leaveRw1 hS2 hH⟩
         ·rw [if_pos q7] at hv;refine zQ 4 ?_;refine qv (single_ev _) ?_;refine zQ 3 ?_;have hm := hone ((g.1 : Nat) : Int) (by omega) (by omega);refine EvC.ret ⟨rx,_,_,_,rfl,leaveD_rw (rfl),?_⟩;exact ⟨_,_,_,rfl,hfin _ _ hv hm.1 hm.2,hH0.leaveRw1 hS2 hH⟩
end Go.Proofs.Ytapfahlbkhgdpaa
namespace Go.Proofs.Ytapfahlbkhgdpaa
open Go.V Go
def ixF_Td (fr : Go.V.Fr) (k : Nat) : Go.V.D := Go.V.nth .junk fr.loc k
noncomputable def partF (gs : List (Nat × Nat)) (i : Nat) : PR (Option (List Rg × Bool)) :=
 match gs[i]? with
 | none => .er 4 i
 | some g =>
  if badS gs i = true then .er 4 i
  else if ((g.1 : Nat) : Int) = 92 then
   match signF gs i with
   | .ok (a,b) j => .ok (some (a,b)) j
   | .er e w => .er e w
  else if ((g.1 : Nat) : Int) = 91 \/ ((g.1 : Nat) : Int) = 93 \/ ((g.1 : Nat) : Int) = 45 then .ok none i
  else .ok (some ([(((g.1 : Nat) : Int),((g.1 : Nat) : Int))],true)) (i + 1)
def PartX (gs : List (Nat × Nat)) (pls : List Int) (R : PR (Option (List Rg × Bool))) (s s' : Prs) (d1 : D) (b : Bool) : Prop :=
 s'.o = s.o /\ s'.g = s.g /\ s.i <= s'.i /\ s'.i <= gs.length /\ (ErrX R pls s' /\ d1 = .nul \/ (s' = s /\ R = .ok none s.i /\ d1 = .nul /\ b = false) \/ (s'.e = 0 /\ s.i < s'.i /\ ∃ a,R = .ok (some (a,b)) s'.i /\ d1 = rangesV a /\ a.length <= 8 /\ a ≠ []))
theorem partX_ev {N k : Nat} {S s0 : St} {H : List Ent} {gs : List (Nat × Nat)} {plD : D} {pls : List Int} {s : Prs} (hok : PrsOk gs pls) (he : s.e = 0) (hi : s.i < gs.length) (hH : Has N S s0 (.box k (.mem 0 false (prsC gs plD s)) :: .lst plD 1 (pls.map intC) :: H)) :
  ∃ d st',Ev pv 83 [.ptr k 0 0] s0 d st' /\ ∃ (d1 : D) (b : Bool) (s' : Prs),d = .tup [d1, .bool b] /\ PartX gs pls (partF gs s.i) s s' d1 b /\ Has N S st' (.box k (.mem 0 false (prsC gs plD s')) :: .lst plD 1 (pls.map intC) :: H) := by
 have hgl := hok.gl;have hpl := hok.pl;refine Ev.mkE rfl fi83 rfl rfl rfl ?_;refine zE ?_;have hH0 := hH;have hH := hH.enterRw;have hS2 : (enterSt .rw s0).bs = s0.bs := rfl;generalize enterSt .rw s0 = S2 at *;have hgr : Arg N S2 2 (gotsD gs) (gs.map gotC) := Arg.pure (fun st => gots_rows st gs)
 obtain ⟨g,hg⟩ : ∃ g,gs[s.i]? = some g := ⟨gs[s.i]'hi,List.getElem?_eq_getElem _⟩
 have hr1 : (gs.map gotC)[s.i]? = some (gotC g) := by rw [List.getElem?_map,hg]; rfl
 have hv : partF gs s.i = partF gs s.i := rfl
 conv at hv => rhs; unfold partF; simp only [hg]
 refine zQ 13 ?_;obtain ⟨_,st,hev,rfl,hH⟩ := bad_ev (s := s) s.i hi hH;refine qv hev ?_;refine zQ 1 ?_;refine qc (fun hb => ?_) (fun hb => ?_) <;> try simp only [cs] at hb
 ·rw [if_pos hb] at hv;refine zQ 7 ?_;obtain ⟨_,st,hev,rfl,hH⟩ := wrong_ev (s := s) s.i 4 (by omega) hH;refine qv hev ?_;refine zQ 6 ?_;obtain ⟨h1,h2,h3,h4⟩ := wrong_x (pls := pls) (s := s) (i := s.i) (e := 4) he (by decide) hv;refine EvC.ret ⟨rx,_,_,_,rfl,leaveD_rw (rfl),?_⟩;exact ⟨_,_,_,rfl,⟨h3,h4,by rw [h2]; exact Nat.le_refl _,by rw [h2]; omega, .inl ⟨h1,rfl⟩⟩,hH0.leaveRw1 hS2 hH⟩
 ·rw [if_neg (by rw [hb]; simp)] at hv;refine zQ 11 ?_;refine qr fun p25 hp25 => ?_;refine qf (fo := 0) fun p26 hp26 => ?_;refine zQ 13 ?_;refine zI (fun q1 => ?_) fun q1 => ?_
  ·rw [if_pos q1] at hv;refine zQ 3 ?_;obtain ⟨_,st,hev,d1,b,s',rfl,⟨p1,p2,p3,p4,p5⟩,hH⟩ := signX_ev (s := s) hok he hi hH;refine qv hev ?_;refine zQ 5 ?_
   rcases p5 with ⟨p5,rfl⟩ | ⟨p5,p6,a,p7,rfl,p8,p9⟩
   ·refine EvC.ret ⟨rx,_,_,_,rfl,leaveD_rw (rfl),?_⟩;exact ⟨_,_,_,rfl,⟨p1,p2,p3,p4, .inl ⟨p5.map fun e w h => by rw [hv,h],rfl⟩⟩,hH0.leaveRw1 hS2 hH⟩
   ·refine EvC.ret ⟨rx,_,_,_,rfl,leaveD_rw (rfl),?_⟩;exact ⟨_,_,_,rfl,⟨p1,p2,p3,p4, .inr (.inr ⟨p5,p6,a,by rw [hv,p7],rfl,p8,p9⟩)⟩,hH0.leaveRw1 hS2 hH⟩
  ·rw [if_neg q1] at hv;refine zQ 6 ?_
   by_cases q91 : ((g.1 : Nat) : Int) = 91
   ·rw [if_pos (.inl q91)] at hv;refine qD rfl (by simp [q91]) ?_;refine zQ 1 ?_;refine qD rfl (by simp [q91]) ?_;refine zQ 5 ?_;refine EvC.ret ⟨rx,_,_,_,rfl,leaveD_rw (rfl),?_⟩;exact ⟨_,_,s,rfl,⟨rfl,rfl,Nat.le_refl _,by omega, .inr (.inl ⟨rfl,hv,rfl,rfl⟩)⟩,hH0.leaveRw1 hS2 hH⟩
   refine qE rfl (by simp [q91]) ?_;refine zQ 5 ?_
   by_cases q93 : ((g.1 : Nat) : Int) = 93
   ·rw [if_pos (.inr (.inl q93))] at hv;refine qD rfl (by simp [q93]) ?_;refine zQ 1 ?_;refine qD rfl (by simp [q93]) ?_;refine zQ 5 ?_;refine EvC.ret ⟨rx,_,_,_,rfl,leaveD_rw (rfl),?_⟩;exact ⟨_,_,s,rfl,⟨rfl,rfl,Nat.le_refl _,by omega, .inr (.inl ⟨rfl,hv,rfl,rfl⟩)⟩,hH0.leaveRw1 hS2 hH⟩
   refine qE rfl (by simp [q93]) ?_;refine zQ 4 ?_
   by_cases q45 : ((g.1 : Nat) : Int) = 45
   ·rw [if_pos (.inr (.inr q45))] at hv;refine qD rfl (by simp [q45]) ?_;refine zQ 5 ?_;refine EvC.ret ⟨rx,_,_,_,rfl,leaveD_rw (rfl),?_⟩;exact ⟨_,_,s,rfl,⟨rfl,rfl,Nat.le_refl _,by omega, .inr (.inl ⟨rfl,hv,rfl,rfl⟩)⟩,hH0.leaveRw1 hS2 hH⟩
   refine qE rfl (by simp [q45]) ?_;rw [if_neg (by rintro (h | h | h); exact q91 h; exact q93 h; exact q45 h)] at hv;refine zQ 9 ?_;refine qT hH at0 fun st hH => ?_;dsimp only [u2,u1,u3,u4,setMany,u5,u6,D.cells,Nat.reduceAdd,prsC,gotC,intC,rangeC] at hH;refine zQ 5 ?_;refine EvO.ones (qs := [(0,_),(1,_)]) rfl rfl rfl rfl ⟨rfl,(ev rfl),(by rfl),rfl,(ev rfl),(by rfl),trivial⟩ (by intro q hq; simp only [List.mem_cons,List.not_mem_nil,or_false] at hq; rcases hq with rfl | rfl <;> exact ⟨rfl,by exact Nat.le_of_ble_eq_true rfl⟩) (by show List.foldl _ [_,_] _ = _; dsimp only [List.foldl_cons,List.foldl_nil,u2,u1] <;> rfl) (put_T rfl _) ?_;refine qh (s := 2) (vs := [_]) hH fun k39 st hk39 hH => ?_;refine zQ 3 ?_;have hH : Has N S2 st (.lst (.win k39 0 0 1 2) 2 (([((g.1 : Nat),(g.1 : Nat))] : List Rg).map rangeC) :: .box k (.mem 0 false (prsC gs plD { s with i := s.i + 1 })) :: .lst plD 1 (pls.map intC) :: H) := hH;have hfz := has_freezeR hH at0 (L := s0.bs.length) (n := 15) (fun k hk => by simp only [D.ref] at hk; rw [<- hS2]; omega) (by decide)
   have hfz2 : freezeD st s0.bs.length true 16 (tupD [.win k39 0 0 1 2, .bool true]) = some (.tup [rangesV [(((g.1 : Nat) : Int),((g.1 : Nat) : Int))], .bool true]) := by
    show (mapO (freezeD st s0.bs.length true 15) [.win k39 0 0 1 2, .bool true]).map D.tup = _;simp only [mapO,freeze_kn,hfz]; rfl
   refine EvC.ret ⟨rx,_,_,_,rfl,leaveD_rw hfz2,⟨_,_, { s with i := s.i + 1 },rfl,⟨rfl,rfl,?_,?_, .inr (.inr ⟨he,?_,_,hv,rfl,by simp,by simp⟩)⟩,hH0.leaveRw1 hS2 (hH.drop 1)⟩⟩
   ·show s.i <= s.i + 1; omega
   ·show s.i + 1 <= _; omega
   ·show s.i < s.i + 1; omega
def loF : List Rg -> Int
 | [] => 0
 | q :: _ => q.1
noncomputable def itemF (gs : List (Nat × Nat)) (i : Nat) : PR (List Rg) :=
 match partF gs i with
 | .er e w => .er e w
 | .ok none _ => .er 4 i
 | .ok (some (a,one)) j =>
  if isS gs j 45 = true then
   if j + 1 < gs.length then
    match partF gs (j + 1) with
    | .er e w => .er e w
    | .ok none _ => .er 4 i
    | .ok (some (b,two)) l => if one = true /\ two = true /\ loF a <= loF b then .ok [(loF a,loF b)] l else .er 4 i
   else .er 4 i
  else .ok a j
def ItemX (gs : List (Nat × Nat)) (pls : List Int) (R : PR (List Rg)) (s s' : Prs) (d : D) : Prop :=
 s'.o = s.o /\ s'.g = s.g /\ s.i <= s'.i /\ s'.i <= gs.length /\ ∃ a : List Rg,d = rangesV a /\ a.length <= 8 /\ (ErrX R pls s' \/ s'.e = 0 /\ s.i < s'.i /\ R = .ok a s'.i)
theorem itemX_ev {N k : Nat} {S s0 : St} {H : List Ent} {gs : List (Nat × Nat)} {plD : D} {pls : List Int} {s : Prs} (hok : PrsOk gs pls) (he : s.e = 0) (hi : s.i < gs.length) (hH : Has N S s0 (.box k (.mem 0 false (prsC gs plD s)) :: .lst plD 1 (pls.map intC) :: H)) :
  ∃ d st',Ev pv 67 [.ptr k 0 0] s0 d st' /\ ∃ (s' : Prs),ItemX gs pls (itemF gs s.i) s s' d /\ Has N S st' (.box k (.mem 0 false (prsC gs plD s')) :: .lst plD 1 (pls.map intC) :: H) := by
 have hgl := hok.gl;have hpl := hok.pl;refine Ev.mkE rfl fi67 rfl rfl rfl ?_;refine zE ?_;have hH0 := hH;have hH := hH.enterRw;have hS2 : (enterSt .rw s0).bs = s0.bs := rfl;generalize enterSt .rw s0 = S2 at *;have hgr : Arg N S2 2 (gotsD gs) (gs.map gotC) := Arg.pure (fun st => gots_rows st gs)
 have hwr : ∀ (st : St) (s3 : Prs),s3.e = 0 -> itemF gs s.i = .er 4 s.i -> s3.o = s.o -> s3.g = s.g -> s.i <= s3.i -> s3.i <= gs.length -> Has N S2 st (.box k (.mem 0 false (prsC gs plD s3)) :: .lst plD 1 (pls.map intC) :: H) -> ∃ d st',Ev pv 17 [.ptr k 0 0, .int .i64 (s.i : Nat), .int .i64 4] st d st' /\ d = .sl [] /\ ∃ s4 : Prs,s4.e ≠ 0 /\ ItemX gs pls (itemF gs s.i) s s4 (.sl []) /\ Has N S2 st' (.box k (.mem 0 false (prsC gs plD s4)) :: .lst plD 1 (pls.map intC) :: H) := by
  intro st s3 h1 hv h2 h3 h4 h5 hH;obtain ⟨d,st',hev,h6,hH⟩ := wrong_ev (s := s3) s.i 4 (by omega) hH;obtain ⟨w1,w2,w3,w4⟩ := wrong_x (pls := pls) (s := s3) (i := s.i) (e := 4) h1 (by decide) hv;exact ⟨d,st',hev,h6,_,w1.ne,⟨w3.trans h2,w4.trans h3,by omega,by omega, [],rfl,by simp, .inl w1⟩,hH⟩
 have hv0 : itemF gs s.i = match partF gs s.i with
  | .er e w => .er e w
  | .ok none _ => .er 4 s.i
  | .ok (some (a,one)) j =>
   if isS gs j 45 = true then
    if j + 1 < gs.length then
     match partF gs (j + 1) with
     | .er e w => .er e w
     | .ok none _ => .er 4 s.i
     | .ok (some (b,two)) l => if one = true /\ two = true /\ loF a <= loF b then .ok [(loF a,loF b)] l else .er 4 s.i
    else .er 4 s.i
   else .ok a j := rfl
 refine zQ 15 ?_;obtain ⟨_,st,hev,d1,b,s1,rfl,⟨p1,p2,p3,p4,p5⟩,hH⟩ := partX_ev (s := s) hok he hi hH;refine qv hev ?_;refine zQ 15 ?_
 rcases p5 with ⟨p5,rfl⟩ | ⟨e1,e2,rfl,rfl⟩ | ⟨p6,p7,a,e2,rfl,p8,p9⟩
 ·have hne := p5.ne;refine qD rfl (by simp [hne]) ?_;refine zQ 4 ?_;refine EvC.ret ⟨rx,_,_,_,rfl,leaveD_rw (rfl),?_⟩;exact ⟨s1,⟨p1,p2,p3,p4, [],rfl,by simp, .inl (p5.map fun e w h => by rw [hv0,h])⟩,hH0.leaveRw1 hS2 hH⟩
 ·rw [e2] at hv0;simp only at hv0;have e3 : s1.e = 0 := by rw [e1]; exact he
  refine qE rfl (by simp [e3]) ?_;refine zQ 5 ?_;refine EvO.go (d := .bool true) (st1 := _) rfl rfl rfl (put_T rfl _) ?_;refine zQ 6 ?_;obtain ⟨_,st,hev,rfl,s4,hne4,hX,hH⟩ := hwr _ s1 e3 hv0 p1 p2 p3 p4 hH;refine qv hev ?_;refine zQ 5 ?_;refine EvC.ret ⟨rx,_,_,_,rfl,leaveD_rw (rfl),?_⟩;exact ⟨s4,hX,hH0.leaveRw1 hS2 hH⟩
 ·rw [e2] at hv0;simp only at hv0;obtain ⟨q,a',rfl⟩ : ∃ q a',a = q :: a' := List.exists_cons_of_ne_nil p9;refine qE rfl (by simp [p6]) ?_;refine zQ 5 ?_;refine EvO.go (d := .bool false) (st1 := _) rfl rfl rfl (put_T rfl _) ?_;refine zQ 3 ?_;obtain ⟨k1,k2,k3,k4,k5⟩ := skip_i (gs := gs) (s := s1) (r := 45);have k5 := k5 p4;refine zQ 4 ?_;obtain ⟨_,st,hev,rfl,hH⟩ := skip_ev (s := s1) (by omega) 45 hH;refine qv hev ?_;refine zQ 2 ?_;have hsk : isS gs s1.i 45 = true -> (skipS gs s1 45).i = s1.i + 1 := fun h => by unfold skipS; rw [if_pos h]
  have hsn : isS gs s1.i 45 = false -> (skipS gs s1 45).i = s1.i := fun h => by unfold skipS; rw [if_neg (by rw [h]; simp)]
  generalize skipS gs s1 45 = s2 at *
  cases hb : isS gs s1.i 45 with
  | false =>
   have hsn := hsn hb;rw [hb,if_neg (by simp), <- hsn] at hv0;refine zQ 6 ?_;refine EvC.ret ⟨rx,_,_,_,rfl,leaveD_rw (rfl),?_⟩;exact ⟨s2,⟨k1.trans p1,k2.trans p2,by omega,k5,q :: a',rfl,p8, .inr ⟨k3.trans p6,by omega,hv0⟩⟩,hH0.leaveRw1 hS2 hH⟩
  | true =>
   have hsk := hsk hb;rw [hb,if_pos rfl, <- hsk] at hv0;refine zQ 21 ?_;refine qn ?_;simp only [List.length_map];refine zQ 2 ?_;refine EvC.merge (fun fr st => ∃ (d2 : D) (two : Bool) (s3 : Prs) (tmp : List (Nat × D)),fr = ⟨8, [.ptr k 0 0,ixF_Td fr 1,ixF_Td fr 2, .int .i64 (s.i : Nat),rangesV (q :: a'), .bool b,d2, .bool two],tmp⟩ /\ Has N S2 st (.box k (.mem 0 false (prsC gs plD s3)) :: .lst plD 1 (pls.map intC) :: H) /\ (s3.o = s.o) /\ (s3.g = s.g) /\ (s2.i <= s3.i) /\ (s3.i <= gs.length) /\ (ErrX (itemF gs s.i) pls s3 \/ s3.e = 0 /\ (two = false /\ itemF gs s.i = .er 4 s.i \/ ∃ a2 : List Rg,d2 = rangesV a2 /\ a2 ≠ [] /\ itemF gs s.i = if b = true /\ two = true /\ loF (q :: a') <= loF a2 then .ok [(loF (q :: a'),loF a2)] s3.i else .er 4 s.i))) ?_ ?_
   ·refine zP (fun hlt => ?_) fun hlt => ?_
    ·have hlt2 : s2.i < gs.length := by omega
     rw [if_pos hlt2] at hv0;refine zQ 2 ?_;obtain ⟨_,st,hev,d2,two,s3,rfl,⟨r1,r2,r3,r4,r5⟩,hH⟩ := partX_ev (s := s2) hok (k3.trans p6) (by omega) hH;refine qv hev ?_;refine zQ 6 ?_
     rcases r5 with ⟨r5,rfl⟩ | ⟨e4,e5,rfl,rfl⟩ | ⟨r6,r7,a2,e5,rfl,r8,r9⟩
     ·exact ⟨.nul,two,s3,_,rfl,hH,r1.trans (k1.trans p1),r2.trans (k2.trans p2),r3,r4, .inl (r5.map fun e w h => by rw [hv0,h])⟩
     ·rw [e5] at hv0;simp only at hv0;exact ⟨.nul,false,s3,_,rfl,hH,r1.trans (k1.trans p1),r2.trans (k2.trans p2),r3,r4, .inr ⟨by rw [e4]; exact k3.trans p6, .inl ⟨rfl,hv0⟩⟩⟩
     ·rw [e5] at hv0;simp only at hv0;exact ⟨rangesV a2,two,s3,_,rfl,hH,r1.trans (k1.trans p1),r2.trans (k2.trans p2),r3,r4, .inr ⟨r6, .inr ⟨a2,rfl,r9,hv0⟩⟩⟩
    ·rw [if_neg (by omega)] at hv0;refine zQ 1 ?_;exact ⟨.nul,false,s2,_,rfl,hH,k1.trans p1,k2.trans p2,Nat.le_refl _,k5, .inr ⟨k3.trans p6, .inl ⟨rfl,hv0⟩⟩⟩
   ·rintro fr st ⟨d2,two,s3,tmp,hfr,hH,h1,h2,h3,h4,h5⟩;rw [hfr];clear hfr;generalize ixF_Td fr = ee;clear fr
    rcases h5 with h5 | ⟨h5,h6⟩
    ·have hne := h5.ne;have hg5 : (s3.e == 0) = false := by simpa using hne
     refine zQ 39 ?_;refine qD rfl (by simp [hne]) ?_;refine zQ 4 ?_;refine EvC.ret ⟨rx,_,_,_,rfl,leaveD_rw (rfl),?_⟩;exact ⟨s3,⟨h1,h2,by omega,h4, [],rfl,by simp, .inl h5⟩,hH0.leaveRw1 hS2 hH⟩
    ·have hg5 : (s3.e == 0) = true := by simpa using h5
     cases b with
     | false =>
      have hv1 : itemF gs s.i = .er 4 s.i := by
       rcases h6 with ⟨_,h⟩ | ⟨a2,_,_,h⟩
       ·exact h
       ·rw [h,if_neg (by simp)]
      have hg8 : (!false) = true := rfl;refine zQ 14 ?_;refine EvO.pickT (wantD_is rfl rfl rfl hg5) rfl hg8 (put_T rfl _) ?_;refine zQ 17 ?_;obtain ⟨_,st,hev,rfl,s4,w1,hX,hH⟩ := hwr _ s3 h5 hv1 h1 h2 (by omega) h4 hH;refine qv hev ?_;refine zQ 10 ?_;refine qD rfl (by simp [w1]) ?_;refine zQ 4 ?_;refine EvC.ret ⟨rx,_,_,_,rfl,leaveD_rw (rfl),?_⟩;exact ⟨s4,hX,hH0.leaveRw1 hS2 hH⟩
     | true =>
      have hg8 : (!true) = false := rfl
      cases two with
      | false =>
       have hv1 : itemF gs s.i = .er 4 s.i := by
        rcases h6 with ⟨_,h⟩ | ⟨a2,_,_,h⟩
        ·exact h
        ·rw [h,if_neg (by simp)]
       have hg12 : (!false) = true := rfl;refine zQ 14 ?_;refine EvO.pickF (wantD_is rfl rfl rfl hg5) rfl hg8 (put_T rfl _) ?_;refine zQ 10 ?_;refine EvO.pickT (wantD_is rfl rfl rfl hg5) rfl hg12 (put_T rfl _) ?_;refine zQ 6 ?_;obtain ⟨_,st,hev,rfl,s4,w1,hX,hH⟩ := hwr _ s3 h5 hv1 h1 h2 (by omega) h4 hH;refine qv hev ?_;refine zQ 10 ?_;refine qD rfl (by simp [w1]) ?_;refine zQ 4 ?_;refine EvC.ret ⟨rx,_,_,_,rfl,leaveD_rw (rfl),?_⟩;exact ⟨s4,hX,hH0.leaveRw1 hS2 hH⟩
      | true =>
       have hg12 : (!true) = false := rfl
       obtain ⟨a2,rfl,h7,hv1⟩ : ∃ a2 : List Rg,d2 = rangesV a2 /\ a2 ≠ [] /\ itemF gs s.i = if true = true /\ true = true /\ loF (q :: a') <= loF a2 then .ok [(loF (q :: a'),loF a2)] s3.i else .er 4 s.i := by
        rcases h6 with h6 | h6
        ·cases h6.1
        ·exact h6
       obtain ⟨q2,a2',rfl⟩ : ∃ q a',a2 = q :: a' := List.exists_cons_of_ne_nil h7
       have hv1 : itemF gs s.i = if q.1 <= q2.1 then .ok [(q.1,q2.1)] s3.i else .er 4 s.i := by
        rw [hv1]; simp [loF]
       have hra := (ranges_sl (q :: a')).arg N S2;have hra2 := (ranges_sl (q2 :: a2')).arg N S2;have hr0 : ((q :: a').map rangeC)[0]? = some (rangeC q) := rfl;have hr1 : ((q2 :: a2').map rangeC)[0]? = some (rangeC q2) := rfl;refine zQ 14 ?_;refine EvO.pickF (wantD_is rfl rfl rfl hg5) rfl hg8 (put_T rfl _) ?_;refine zQ 2 ?_;refine qr (fun p60 hp60 => ?_) (hg := wi hg12);refine qf (fo := 0) (fun p61 hp61 => ?_) (hg := wi hg12);refine zQ 2 ?_;refine qr (fun p64 hp64 => ?_) (hg := wi hg12);refine qf (fo := 0) (fun p65 hp65 => ?_) (hg := wi hg12);refine zQ 2 ?_;refine EvO.pickF (wantD_is rfl rfl rfl hg5) rfl hg12 (put_T rfl _) ?_;refine zQ 2 ?_;refine zP (fun hgt => ?_) fun hgt => ?_
       ·rw [if_neg (by omega)] at hv1;refine zQ 3 ?_;obtain ⟨_,st,hev,rfl,s4,w1,hX,hH⟩ := hwr _ s3 h5 hv1 h1 h2 (by omega) h4 hH;refine qv hev ?_;refine zQ 10 ?_;refine qD rfl (by simp [w1]) ?_;refine zQ 4 ?_;refine EvC.ret ⟨rx,_,_,_,rfl,leaveD_rw (rfl),?_⟩;exact ⟨s4,hX,hH0.leaveRw1 hS2 hH⟩
       ·rw [if_pos (by omega)] at hv1;refine zQ 10 ?_;refine qE rfl (by simp [h5]) ?_;refine zQ 4 ?_;refine qr fun p79 hp79 => ?_;refine qf (fo := 0) fun p80 hp80 => ?_;refine zQ 2 ?_;refine qr fun p83 hp83 => ?_;refine qf (fo := 0) fun p84 hp84 => ?_;refine qR ?_;refine EvO.ones (qs := [(0,_),(1,_)]) rfl rfl rfl rfl ⟨rfl,(ev rfl),(by rfl),rfl,(ev rfl),(by rfl),trivial⟩ (by intro q hq; simp only [List.mem_cons,List.not_mem_nil,or_false] at hq; rcases hq with rfl | rfl <;> exact ⟨rfl,by exact Nat.le_of_ble_eq_true rfl⟩) (by show List.foldl _ [_,_] _ = _; dsimp only [List.foldl_cons,List.foldl_nil,u2,u1] <;> rfl) (put_T rfl _) ?_;refine qh (s := 2) (vs := [_]) hH fun k87 st hk87 hH => ?_;dsimp only [u2,u1,u3,u4,setMany,u5,u6,D.cells,Nat.reduceAdd,prsC,gotC,intC,rangeC] at hH;refine zQ 2 ?_;have hH : Has N S2 st (.lst (.win k87 0 0 1 2) 2 (([(q.1,q2.1)] : List Rg).map rangeC) :: .box k (.mem 0 false (prsC gs plD s3)) :: .lst plD 1 (pls.map intC) :: H) := hH;have hfz := has_freezeR hH at0 (L := s0.bs.length) (n := 16) (fun k hk => by simp only [D.ref] at hk; rw [<- hS2]; omega) (by decide);refine EvC.ret ⟨rx,_,_,_,rfl,leaveD_rw hfz,⟨s3,⟨h1,h2,by omega,h4, [(q.1,q2.1)],rfl,by simp, .inr ⟨h5,by omega,hv1⟩⟩,hH0.leaveRw1 hS2 (hH.drop 1)⟩⟩
end Go.Proofs.Ytapfahlbkhgdpaa
