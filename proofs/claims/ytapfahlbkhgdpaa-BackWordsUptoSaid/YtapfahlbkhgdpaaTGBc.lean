/- own -/
import Derived.Test.YtapfahlbkhgdpaaTGHr
import Derived.Test.YtapfahlbkhgdpaaTGQm
import Derived.Test.YtapfahlbkhgdpaaTGCa
import Derived.Test.YtapfahlbkhgdpaaTGKb
import Derived.Test.YtapfahlbkhgdpaaTGM3
import Derived.Test.YtapfahlbkhgdpaaTGQh
import Derived.Lib.IndexLaws
set_option maxRecDepth 100000
set_option maxHeartbeats 4000000
set_option linter.unusedSimpArgs false
set_option linter.unusedVariables false
set_option linter.unusedSectionVars false
namespace Go.Proofs.Ytapfahlbkhgdpaa
open Go.V Go
def ixF_Bc (fr : Go.V.Fr) (k : Nat) : Go.V.D := Go.V.nth .junk fr.loc k
def plS : Int -> List (Nat × Nat) -> List Int
 | a, [] => [a]
 | a,g :: r => a :: plS (a + (g.2 : Nat)) r
theorem plS_len : ∀ (l : List (Nat × Nat)) (a : Int),(plS a l).length = l.length + 1
 | [],_ => rfl
 | g :: r,a => by simp only [plS,List.length_cons,plS_len r]
def findP (idx : Nat -> Nat -> Nat) (stp : Tr3 -> Res) (fuel start : Nat) : Nat -> Nat -> List Bool -> Option Cps
 | 0,_,_ => none
 | m + 1,i,arr => match (dfsF idx stp fuel arr [⟨start,i,noCaps⟩]).1 with
  | some c => some c
  | none => findP idx stp fuel start m (i + 1) (dfsF idx stp fuel arr [⟨start,i,noCaps⟩]).2
noncomputable def progFind (p : Pg) (rule : Int) (b : List UInt8) : Option Cps :=
 if dec (RightQ p) = true /\ 0 <= rule /\ rule < (p.starts.length : Int) then
  findP (idxP p.code.length) (stepS p.code (allS b) (plS 0 (allS b))) (3 * (((allS b).length + 1) * p.code.length) + 1) (p.starts.getD rule.toNat 0).toNat ((allS b).length + 1) 0 (List.replicate (((allS b).length + 1) * p.code.length) false)
 else none
theorem dfsF_len (idx : Nat -> Nat -> Nat) (stp : Tr3 -> Res) : ∀ (f : Nat) (arr : List Bool) (stk : List Tr3),(dfsF idx stp f arr stk).2.length = arr.length
 | 0,arr,_ => by simp [dfsF]
 | f + 1,arr, [] => by simp [dfsF]
 | f + 1,arr,t :: stk => by
  unfold dfsF
  split
  ·split
   ·simp
   ·rw [dfsF_len idx stp f,List.length_set]
  ·exact dfsF_len idx stp f arr stk
theorem find3_ev {s0 : St} {p : Pg} {b : List UInt8} (hp : p.ok) (rule : Int) (hbl : b.length <= 1048576) (hsz : ((allS b).length + 1) * p.code.length <= 134217728) :
  Ev pv 6 [p.d, .int .i64 rule, .str b] s0 (outC (progFind p rule b)) s0 := by
 obtain ⟨hgl,hgs⟩ := allS_len _ b (Nat.le_refl _);have hev : ∀ (st : St) (x : D),Bytes st x b -> Ev pv 12 [x] st (gotsD (allS b)) st := fun st x h => all_ev h hbl;unfold progFind;generalize allS b = gs at *;refine Ev.mk1 rfl fi6 rfl rfl rfl ?_;refine zE ?_;obtain ⟨hSb,hF,hH⟩ := ri s0;generalize enterSt .ro s0 = S at *;have hc := hp.c.arg s0.bs.length S;have hs := hp.s.arg s0.bs.length S;have hlen := hp.cl;have hsl := hp.sl;unfold Pg.d;refine zQ 2 ?_;refine qb hH fun k3 st hk3 hH => ?_;refine qa hH fun k6 st hk6 hH => ?_;refine zQ 4 ?_;refine EvC.cutL 28 (.bool ((!dec (RightQ p) || decide (rule < 0)) || decide (rule >= p.starts.length))) [15,16,17,18,19,20,21,22,23,24,25,26,27] ?_ (fun ff tmp => ?_)
 ·refine EvO.hloadS (m := 2) hH rfl (ev rfl) (by exact at1) (by dsimp only [List.drop_succ_cons,List.drop_zero,List.take_succ_cons,List.take_zero,insC,intC,boolC,tryC,capsC,noCaps,zeroCaps] <;> rfl) rfl rfl (by dsimp only [Fr.put,u1,u2] <;> rfl) ?_;refine qv (checkRight_ev (p := p) hp) ?_;refine zQ 2 ?_;refine EvO.two 18 rfl (fun hg3 => ?_) (fun hg3 => ?_)
  ·refine zQ 10 ?_;refine EvO.nil (leafL ?_);dsimp only [setW,List.foldl,nth,u2,u1];dsimp only [Fr.putO,Fr.put,Fr.clean,Fr.ev,Fr.get,nth,look,u1,u2,v1,v2,v4]
   all_goals (simp [hg3]; done)
  ·refine zQ 4 ?_;refine EvO.two 22 rfl (fun hg7 => ?_) (fun hg7 => ?_)
   ·refine zQ 6 ?_;refine EvO.nil (leafL ?_);dsimp only [setW,List.foldl,nth,u2,u1];dsimp only [Fr.putO,Fr.put,Fr.clean,Fr.ev,Fr.get,nth,look,u1,u2,v1,v2,v4]
    all_goals (simp [hg3,hg7]; done)
   ·refine zQ 3 ?_;refine qn ?_ (hg := wi hg7);simp only [List.length_map];refine zQ 2 ?_;refine EvO.nil (leafL ?_);dsimp only [setW,List.foldl,nth,u2,u1];dsimp only [Fr.putO,Fr.put,Fr.clean,Fr.ev,Fr.get,nth,look,u1,u2,v1,v2,v4]
    all_goals (simp [hg3,hg7]; done)
 dsimp only [setW,List.foldl,nth,u2,u1];generalize ff 15 = e15;generalize ff 16 = e16;generalize ff 17 = e17;generalize ff 18 = e18;generalize ff 19 = e19;generalize ff 20 = e20;generalize ff 21 = e21;generalize ff 22 = e22;generalize ff 23 = e23;generalize ff 24 = e24;generalize ff 25 = e25;generalize ff 26 = e26;generalize ff 27 = e27;refine qc (fun h0 => ?_) (fun h0 => ?_) <;> try simp only [cs] at h0
 ·have hn : ¬ (dec (RightQ p) = true /\ 0 <= rule /\ rule < (p.starts.length : Int)) := by
   rintro ⟨h1,h2,h3⟩;rw [h1] at h0;simp at h0; omega
  rw [if_neg hn];refine zQ 2 ?_;refine EvO.go (d := .agg (capsC zeroCaps)) (st1 := _) rfl rfl rfl (by dsimp only [Fr.put,u1,u2] <;> rfl) ?_;refine qS hH at0 fun st hH => ?_;dsimp only [u2,u1,u3,u4,setMany,u5,u6,D.cells,Nat.reduceAdd,insC,intC,boolC,tryC,capsC,noCaps,zeroCaps] at hH;refine zQ 2 ?_;refine EvC.ret ⟨rx,_,hH.resCellT rfl at0 rfl rfl,rl hSb hH rfl⟩
 ·have h1 : RightQ p /\ 0 <= rule /\ rule < (p.starts.length : Int) := by
   simp only [Bool.or_eq_false_iff,Bool.not_eq_false',decide_eq_false_iff_not] at h0;exact ⟨dec_true h0.1.1,by omega,by omega⟩
  obtain ⟨hR,hin0,hin1⟩ := h1;rw [if_pos ⟨dec_yes hR,hin0,hin1⟩];obtain ⟨ru,rfl⟩ := Int.eq_ofNat_of_zero_le hin0
  obtain ⟨start,hs1⟩ : ∃ v,p.starts[ru]? = some v := ⟨p.starts[ru]'(by omega),List.getElem?_eq_getElem _⟩
  have hst := hR.st start (List.mem_of_getElem? hs1);obtain ⟨sn,rfl⟩ := Int.eq_ofNat_of_zero_le hst.1
  have hgd : (p.starts.getD ((ru : Nat) : Int).toNat 0).toNat = sn := by
   rw [Int.toNat_natCast,List.getD_eq_getElem?_getD,hs1]; rfl
  rw [hgd];have hr0 := int_get hs1;have hgr : Arg s0.bs.length S 2 (gotsD gs) (gs.map gotC) := Arg.pure (fun st => gots_rows st gs);refine zQ 3 ?_;refine EvO.hloadS (m := 2) hH rfl (ev rfl) (by exact at1) (by dsimp only [List.drop_succ_cons,List.drop_zero,List.take_succ_cons,List.take_zero,insC,intC,boolC,tryC,capsC,noCaps,zeroCaps] <;> rfl) rfl rfl (by dsimp only [Fr.put,u1,u2] <;> rfl) ?_;refine qm ?_;refine EvO.hbytes hH rfl rfl rfl rfl rfl (by omega) (fun _ => by dsimp only [Fr.put,u1,u2] <;> rfl) (fun k32 st hk32 hH => ?_);refine qv ((hev _ _ (hH.rows at0))) ?_;refine EvO.go (d := .agg [p.cd,p.sd,gotsD gs, .nul, .nul, .nul]) (st1 := _) rfl rfl rfl (by dsimp only [Fr.put,u1,u2] <;> rfl) ?_;refine qb hH fun k35 st hk35 hH => ?_;refine zQ 13 ?_;refine qn ?_;simp only [List.length_map];refine zQ 3 ?_;refine EvC.loop (fun mm fr st => ∃ (i : Nat) (a : Int) (done : List Int) (pd : D),fr.clean = ⟨89, [ixF_Bc fr 0, .int .i64 (ru : Nat),ixF_Bc fr 2, .ptr k3 0 0,ixF_Bc fr 4,ixF_Bc fr 5, .ptr k6 0 0, .bool false, .ptr k35 0 0, .int .i64 a,ixF_Bc fr 10,ixF_Bc fr 11,ixF_Bc fr 12,ixF_Bc fr 13,ixF_Bc fr 14,ixF_Bc fr 15,ixF_Bc fr 16,ixF_Bc fr 17,ixF_Bc fr 18,ixF_Bc fr 19,ixF_Bc fr 20,ixF_Bc fr 21,ixF_Bc fr 22,ixF_Bc fr 23,ixF_Bc fr 24,ixF_Bc fr 25,ixF_Bc fr 26,ixF_Bc fr 27,ixF_Bc fr 28,ixF_Bc fr 29,ixF_Bc fr 30,ixF_Bc fr 31,ixF_Bc fr 32,ixF_Bc fr 33,ixF_Bc fr 34,ixF_Bc fr 35,ixF_Bc fr 36,ixF_Bc fr 37,ixF_Bc fr 38,gotsD gs, .int .i64 (gs.length : Nat), .int .i64 (i : Nat),ixF_Bc fr 42,ixF_Bc fr 43,ixF_Bc fr 44,ixF_Bc fr 45,ixF_Bc fr 46,ixF_Bc fr 47,ixF_Bc fr 48,ixF_Bc fr 49,ixF_Bc fr 50,ixF_Bc fr 51,ixF_Bc fr 52,ixF_Bc fr 53,ixF_Bc fr 54,ixF_Bc fr 55,ixF_Bc fr 56,ixF_Bc fr 57,ixF_Bc fr 58,ixF_Bc fr 59,ixF_Bc fr 60,ixF_Bc fr 61,ixF_Bc fr 62,ixF_Bc fr 63,ixF_Bc fr 64,ixF_Bc fr 65,ixF_Bc fr 66,ixF_Bc fr 67,ixF_Bc fr 68,ixF_Bc fr 69,ixF_Bc fr 70,ixF_Bc fr 71,ixF_Bc fr 72,ixF_Bc fr 73,ixF_Bc fr 74,ixF_Bc fr 75,ixF_Bc fr 76,ixF_Bc fr 77,ixF_Bc fr 78,ixF_Bc fr 79,ixF_Bc fr 80,ixF_Bc fr 81,ixF_Bc fr 82,ixF_Bc fr 83,ixF_Bc fr 84,ixF_Bc fr 85,ixF_Bc fr 86,ixF_Bc fr 87,ixF_Bc fr 88], []⟩ /\ Has s0.bs.length S st [.box k35 (.mem 0 false [p.cd,p.sd,gotsD gs,pd, .nul, .nul]), .lst pd 1 (done.map intC), .box k6 (.mem 0 false (capsC zeroCaps)), .box k3 (.mem 0 false [p.cd,p.sd])] /\ (i + mm = gs.length) /\ (done ++ plS a (gs.drop i) = plS 0 gs) /\ (0 <= a) /\ (a <= 1048576 * i) /\ (done.length = i)) (gs.length) ?_ ?_
  ·refine ⟨0,0, [], .nul,rfl,?_,by omega,rfl,Int.le_refl _,(by omega),rfl⟩;exact (((hH.drop 0).erase 1).nulE 1).front (j := 1) rfl
  rintro mm fr st ⟨i,a,done,pd,hfr,hH,hi,hdn,ha0,ha1,hdl⟩;rw [hfr];clear hfr;generalize ixF_Bc fr = ee;clear fr;refine zQ 5 ?_;refine zP (fun h3 => ?_) fun h3 => ?_
  ·refine zQ 1 ?_
   obtain ⟨g,hg⟩ : ∃ g,gs[i]? = some g := ⟨gs[i]'(by omega),List.getElem?_eq_getElem _⟩
   have hg2 := hgs g (List.mem_of_getElem? hg);have hr1 : (gs.map gotC)[i]? = some (gotC g) := by rw [List.getElem?_map,hg]; rfl
   have hdr : gs.drop i = g :: gs.drop (i + 1) := by
    have := List.drop_eq_getElem_cons (l := gs) (i := i) (by omega);rw [this]; congr 1;rw [List.getElem?_eq_getElem (by omega)] at hg;exact Option.some.inj hg
   refine zQ 4 ?_;refine qr fun p43 hp43 => ?_;refine EvO.rloadS rfl (ev rfl) (by assumption) rfl (by dsimp only [Fr.put,u1,u2] <;> rfl) ?_;refine qa hH fun k11 st hk11 hH => ?_;dsimp only [u2,u1,u3,u4,setMany,u5,u6,D.cells,Nat.reduceAdd,insC,intC,boolC,tryC,capsC,noCaps,zeroCaps] at hH;refine qS hH at0 fun st hH => ?_;dsimp only [u2,u1,u3,u4,setMany,u5,u6,D.cells,Nat.reduceAdd,insC,intC,boolC,tryC,capsC,noCaps,zeroCaps] at hH;refine zQ 9 ?_;refine qh (s := 1) (vs := [_]) hH fun k51 st hk51 hH => ?_;refine qP hH at3 (hH.rows at0) fun x52 st hH => ?_;dsimp only [u2,u1,u3,u4,setMany,u5,u6,D.cells,Nat.reduceAdd,insC,intC,boolC,tryC,capsC,noCaps,zeroCaps] at hH;refine zQ 2 ?_;refine qT hH at2 (fun st hH => ?_) (hcs := hH.ocells at3);dsimp only [u2,u1,u3,u4,setMany,u5,u6,D.cells,Nat.reduceAdd,insC,intC,boolC,tryC,capsC,noCaps,zeroCaps] at hH;refine zQ 12 ?_;exact ⟨mm - 1,by omega,⟨i + 1,a + (g.2 : Nat),done ++ [a],x52,rfl,(by rw [List.map_append]; exact hH.drop 2),by omega,by rw [<- hdn,hdr]; simp [plS],by omega,by omega,by simp [hdl]⟩⟩
  ·refine zQ 1 ?_;have hdr : gs.drop i = [] := List.drop_eq_nil_of_le (by omega);rw [hdr] at hdn;simp only [plS] at hdn;have hpl := plS_len gs 0;refine zQ 8 ?_;refine qh (s := 1) (vs := [_]) hH fun k66 st hk66 hH => ?_;dsimp only [u2,u1,u3,u4,setMany,u5,u6,D.cells,Nat.reduceAdd,insC,intC,boolC,tryC,capsC,noCaps,zeroCaps] at hH;refine qP hH at2 (hH.rows at0) fun x67 st hH => ?_;dsimp only [u2,u1,u3,u4,setMany,u5,u6,D.cells,Nat.reduceAdd,insC,intC,boolC,tryC,capsC,noCaps,zeroCaps] at hH;refine zQ 2 ?_;refine qT hH at1 (fun st hH => ?_) (hcs := hH.ocells at2);dsimp only [u2,u1,u3,u4,setMany,u5,u6,D.cells,Nat.reduceAdd,insC,intC,boolC,tryC,capsC,noCaps,zeroCaps] at hH;refine zQ 1 ?_
   have hH : Has s0.bs.length S st [.box k35 (.mem 0 false [p.cd,p.sd,gotsD gs,x67, .nul, .nul]), .lst x67 1 ((plS 0 gs).map intC), .box k6 (.mem 0 false (capsC zeroCaps)), .box k3 (.mem 0 false [p.cd,p.sd])] := by
    rw [<- hdn,List.map_append]; exact hH.drop 1
   rw [<- hpl] at hsz ⊢;generalize plS 0 gs = pls at *;refine zQ 7 ?_;refine qn ?_ (hR := hH.rows at1);simp only [List.length_map];refine zQ 2 ?_;refine qn ?_;simp only [List.length_map];refine EvO.mulZ (z := ((pls.length * p.code.length : Nat) : Int)) rfl (ev rfl) (ev rfl) (by rw [<- Int.natCast_mul]; exact wrap_nat (by simp only [maxN]; omega)) (by dsimp only [Fr.put,u1,u2] <;> rfl) ?_;refine EvO.hmake (s := 1) hH rfl rfl rfl rfl rfl rfl rfl rfl (Nat.le_of_ble_eq_true rfl) (by omega) (fun _ => by dsimp only [Fr.put,u1,u2] <;> rfl) (fun k80 st hk80 hH => ?_);dsimp only [u2,u1,u3,u4,setMany,u5,u6,D.cells,Nat.reduceAdd,insC,intC,boolC,tryC,capsC,noCaps,zeroCaps] at hH;refine zQ 2 ?_;refine qT hH at1 fun st hH => ?_;dsimp only [u2,u1,u3,u4,setMany,u5,u6,D.cells,Nat.reduceAdd,insC,intC,boolC,tryC,capsC,noCaps,zeroCaps] at hH;refine zQ 8 ?_;refine qn ?_ (hR := hH.rows at2);simp only [List.length_map];refine zQ 2 ?_
   obtain ⟨R,hR0⟩ : ∃ R,findP (idxP p.code.length) (stepS p.code gs pls) (3 * (pls.length * p.code.length) + 1) sn pls.length 0 (List.replicate (pls.length * p.code.length) false) = R := ⟨_,rfl⟩
   rw [hR0];refine zQ 1 ?_;refine EvC.loop (fun mm fr st => ∃ (i : Nat) (ar : List Bool) (ld : D) (old : List (List D)),fr.clean = ⟨89, [ixF_Bc fr 0, .int .i64 (ru : Nat),ixF_Bc fr 2, .ptr k3 0 0,ixF_Bc fr 4,ixF_Bc fr 5, .ptr k6 0 0, .bool false, .ptr k35 0 0,ixF_Bc fr 9,ixF_Bc fr 10,ixF_Bc fr 11,ixF_Bc fr 12,ixF_Bc fr 13,ixF_Bc fr 14,ixF_Bc fr 15,ixF_Bc fr 16,ixF_Bc fr 17,ixF_Bc fr 18,ixF_Bc fr 19,ixF_Bc fr 20,ixF_Bc fr 21,ixF_Bc fr 22,ixF_Bc fr 23,ixF_Bc fr 24,ixF_Bc fr 25,ixF_Bc fr 26,ixF_Bc fr 27,ixF_Bc fr 28,ixF_Bc fr 29,ixF_Bc fr 30,ixF_Bc fr 31,ixF_Bc fr 32,ixF_Bc fr 33,ixF_Bc fr 34,ixF_Bc fr 35,ixF_Bc fr 36,ixF_Bc fr 37,ixF_Bc fr 38,ixF_Bc fr 39,ixF_Bc fr 40,ixF_Bc fr 41,ixF_Bc fr 42,ixF_Bc fr 43,ixF_Bc fr 44,ixF_Bc fr 45,ixF_Bc fr 46,ixF_Bc fr 47,ixF_Bc fr 48,ixF_Bc fr 49,ixF_Bc fr 50,ixF_Bc fr 51,ixF_Bc fr 52,ixF_Bc fr 53,ixF_Bc fr 54,ixF_Bc fr 55,ixF_Bc fr 56,ixF_Bc fr 57,ixF_Bc fr 58,ixF_Bc fr 59,ixF_Bc fr 60,ixF_Bc fr 61,ixF_Bc fr 62,ixF_Bc fr 63,ixF_Bc fr 64,ixF_Bc fr 65,ixF_Bc fr 66,ixF_Bc fr 67,ixF_Bc fr 68,ixF_Bc fr 69,ixF_Bc fr 70,ixF_Bc fr 71,ixF_Bc fr 72,ixF_Bc fr 73,ixF_Bc fr 74,ixF_Bc fr 75,ixF_Bc fr 76,ixF_Bc fr 77,ixF_Bc fr 78,ixF_Bc fr 79,ixF_Bc fr 80,ixF_Bc fr 81,ixF_Bc fr 82,ixF_Bc fr 83,ixF_Bc fr 84,ixF_Bc fr 85,ixF_Bc fr 86, .int .i64 (pls.length : Nat), .int .i64 (i : Nat)], []⟩ /\ Has s0.bs.length S st [.box k35 (.mem 0 false [p.cd,p.sd,gotsD gs,x67, .win k80 0 0 (pls.length * p.code.length) 1,ld]), .lst ld 12 old, .lst x67 1 (pls.map intC), .lst (.win k80 0 0 (pls.length * p.code.length) 1) 1 (ar.map boolC), .box k6 (.mem 0 false (capsC zeroCaps)), .box k3 (.mem 0 false [p.cd,p.sd])] /\ (i + mm = pls.length) /\ (ar.length = pls.length * p.code.length) /\ (findP (idxP p.code.length) (stepS p.code gs pls) (3 * (pls.length * p.code.length) + 1) sn mm i ar = R)) (pls.length) ?_ ?_
   ·refine ⟨0,List.replicate (pls.length * p.code.length) false, .nul, [],rfl,?_,by omega,by rw [List.length_replicate],hR0⟩;rw [List.map_replicate];exact ((hH.front (j := 2) rfl).nulE 12).front (j := 3) rfl
   rintro mm fr st ⟨i,ar,ld,old,hfr,hH,hi,har,hfd⟩;rw [hfr];clear hfr;generalize ixF_Bc fr = ee;clear fr;refine zQ 5 ?_;refine zP (fun h4 => ?_) fun h4 => ?_
   ·refine zQ 1 ?_
    obtain ⟨mm,rfl⟩ : ∃ m',mm = m' + 1 := ⟨mm - 1,by omega⟩
    refine zQ 7 ?_;obtain ⟨d,st1,hev,ld',old',hd,hH2⟩ := from3_ev (start := sn) (i := i) hF hp hR (by omega) hpl (by rw [<- hpl]; exact hsz) (by rw [<- hpl]; exact har) (by omega) (by omega) hH;rw [har] at hd hH2
    cases hD : (dfsF (idxP p.code.length) (stepS p.code gs pls) (3 * (pls.length * p.code.length) + 1) ar [⟨sn,i,noCaps⟩]).1 with
    | some c =>
     simp only [findP,hD] at hfd;rw [hD] at hd;have hd : d = .tup [.agg (capsC c), .bool true] := hd;subst hd;refine zQ 6 ?_;refine qr fun p96 hp96 => ?_;refine zQ 2 ?_;refine qv (hev) ?_;refine zQ 3 ?_;refine EvO.halloc hH2 rfl rfl (fun _ => by dsimp only [Fr.put,u1,u2] <;> rfl) (fun k13 st hk13 hH => ?_);dsimp only [capsC,zeroCaps] at hH;refine qT hH at0 fun st hH => ?_;dsimp only [u2,u1,u3,u4,setMany,u5,u6,D.cells,Nat.reduceAdd,insC,intC,boolC,tryC,capsC,noCaps,zeroCaps] at hH;refine zQ 9 ?_;refine EvO.hloadS (m := 10) hH rfl (ev rfl) (by exact at0) (by dsimp only [List.drop_succ_cons,List.drop_zero,List.take_succ_cons,List.take_zero,insC,intC,boolC,tryC,capsC,noCaps,zeroCaps] <;> rfl) rfl rfl (put_T rfl _) ?_;refine qS hH at5 fun st hH => ?_;dsimp only [u2,u1,u3,u4,setMany,u5,u6,D.cells,Nat.reduceAdd,insC,intC,boolC,tryC,capsC,noCaps,zeroCaps] at hH;refine zQ 2 ?_;rw [<- hfd];refine EvC.ret ⟨rx,_,hH.resCellT rfl at5 rfl rfl,rl hSb hH rfl⟩
    | none =>
     have hlen2 := dfsF_len (idxP p.code.length) (stepS p.code gs pls) (3 * (pls.length * p.code.length) + 1) ar [⟨sn,i,noCaps⟩];simp only [findP,hD] at hfd;rw [hD] at hd;have hd : d = .tup [.agg (capsC zeroCaps), .bool false] := hd;subst hd;refine zQ 6 ?_;refine qr fun p96 hp96 => ?_;refine zQ 2 ?_;refine qv (hev) ?_;refine zQ 3 ?_;refine EvO.halloc hH2 rfl rfl (fun _ => by dsimp only [Fr.put,u1,u2] <;> rfl) (fun k13 st hk13 hH => ?_);dsimp only [capsC,zeroCaps] at hH;refine qT hH at0 fun st hH => ?_;dsimp only [u2,u1,u3,u4,setMany,u5,u6,D.cells,Nat.reduceAdd,insC,intC,boolC,tryC,capsC,noCaps,zeroCaps] at hH;refine zQ 12 ?_;exact ⟨mm,by omega,⟨i + 1,_,ld',old',rfl,(hH.drop 1),by omega,by rw [hlen2]; exact har,hfd⟩⟩
   ·refine zQ 3 ?_;refine EvO.go (d := .agg (capsC zeroCaps)) (st1 := _) rfl rfl rfl (put_T rfl _) ?_;refine qS hH at4 fun st hH => ?_;dsimp only [u2,u1,u3,u4,setMany,u5,u6,D.cells,Nat.reduceAdd,insC,intC,boolC,tryC,capsC,noCaps,zeroCaps] at hH;refine zQ 2 ?_
    have hfin : R = none := by
     have : mm = 0 := by omega
     subst this;rw [<- hfd]; rfl
    rw [hfin];refine EvC.ret ⟨rx,_,hH.resCellT rfl at4 rfl rfl,rl hSb hH rfl⟩
structure Lab (X : Nat -> Prop) (c : List PIns) (b : Nat) (A : Nat -> Prop) (g : Nat -> Nat -> Prop) : Prop where
  hd : g b = A
  tl : g (b + c.length) = A
  xs : ∀ n,X n -> b <= n -> n <= b + c.length -> g n = A
  st : ∀ j i,c[j]? = some i -> (∀ v ∈ nextS (b + j) i, ∃ n : Nat,v = (n : Int) /\ ((b <= n /\ n <= b + c.length /\ ∀ s,g n s -> g (b + j) s \/ (i.op = 4 /\ i.x = (s : Int))) \/ (X n /\ ∀ s,A s -> g (b + j) s \/ (i.op = 4 /\ i.x = (s : Int))))) /\
    i.op ≠ 7 /\ (i.op = 4 -> ∃ k : Nat,1 <= k /\ (i.x = ((2 * k : Nat) : Int) \/ (i.x = ((2 * k + 1 : Nat) : Int) /\ g (b + j) (2 * k))))
theorem Lab.nil (X : Nat -> Prop) (b : Nat) (A : Nat -> Prop) : Lab X [] b A fun _ => A := ⟨rfl,rfl,fun _ _ _ _ => rfl,fun j i h => by simp at h⟩
theorem Lab.one {X : Nat -> Prop} {b : Nat} {A : Nat -> Prop} {i : PIns} (h4 : i.op ≠ 4) (h7 : i.op ≠ 7) (h : ∀ v ∈ nextS b i, ∃ n : Nat,v = (n : Int) /\ (n = b + 1 \/ X n)) : Lab X [i] b A fun _ => A := by
  refine ⟨rfl,rfl,fun _ _ _ _ => rfl,fun j i' hj => ?_⟩
  cases j with
  | succ j => simp at hj
  | zero =>
    simp only [List.getElem?_cons_zero,Option.some.injEq] at hj
    subst hj
    refine ⟨fun v hv => ?_,h7,fun h => absurd h h4⟩
    obtain ⟨n,h1,h2⟩ := h v hv
    refine ⟨n,h1,?_⟩
    rcases h2 with rfl | h2
    · exact .inl ⟨by omega,by simp,fun s hs => .inl hs⟩
    · exact .inr ⟨h2,fun s hs => .inl hs⟩
theorem Lab.widen {X Y : Nat -> Prop} {c : List PIns} {b : Nat} {A : Nat -> Prop} {g : Nat -> Nat -> Prop} (h : Lab X c b A g) (h1 : ∀ n,X n -> Y n) (h2 : ∀ n,Y n -> X n \/ n <= b \/ b + c.length <= n) : Lab Y c b A g := by
  refine ⟨h.hd,h.tl,fun n hn h3 h4 => ?_,fun j i hj => ⟨fun v hv => ?_,(h.st j i hj).2⟩⟩
  · rcases h2 n hn with h5 | h5 | h5
    · exact h.xs n h5 h3 h4
    · rw [show n = b by omega]; exact h.hd
    · rw [show n = b + c.length by omega]; exact h.tl
  · obtain ⟨n,e,h5⟩ := (h.st j i hj).1 v hv
    refine ⟨n,e,?_⟩
    rcases h5 with h5 | ⟨h5,h6⟩
    · exact .inl h5
    · exact .inr ⟨h1 n h5,h6⟩
theorem Lab.close {X Y : Nat -> Prop} {c : List PIns} {b : Nat} {A : Nat -> Prop} {g : Nat -> Nat -> Prop} (h : Lab X c b A g) (h1 : ∀ n,Y n -> X n) (h2 : ∀ n,X n -> Y n \/ (b <= n /\ n <= b + c.length)) : Lab Y c b A g := by
  refine ⟨h.hd,h.tl,fun n hn => h.xs n (h1 n hn),fun j i hj => ⟨fun v hv => ?_,(h.st j i hj).2⟩⟩
  obtain ⟨n,e,h5⟩ := (h.st j i hj).1 v hv
  refine ⟨n,e,?_⟩
  rcases h5 with h5 | ⟨h5,h6⟩
  · exact .inl h5
  · rcases h2 n h5 with h7 | ⟨h7,h8⟩
    · exact .inr ⟨h7,h6⟩
    · exact .inl ⟨h7,h8,fun s hs => h6 s (by rw [h.xs n h5 h7 h8] at hs; exact hs)⟩
theorem Lab.append {X : Nat -> Prop} {c d : List PIns} {b e : Nat} {A : Nat -> Prop} {g f : Nat -> Nat -> Prop} (h : Lab X c b A g) (he : e = b + c.length) (k : Lab X d e A f) : Lab X (c ++ d) b A fun n => if n < e then g n else f n := by
  subst he
  have hm : ∀ n,b + c.length = n -> g n = f n := fun n hn => by subst hn; rw [h.tl,k.hd]
  refine ⟨?_,?_,fun n hn h1 h2 => ?_,fun j i hj => ?_⟩
  · show (if b < b + c.length then g b else f b) = A
    split
    · exact h.hd
    · rw [show b = b + c.length by omega]; exact k.hd
  · show (if b + (c ++ d).length < b + c.length then g _ else f _) = A
    rw [if_neg (by rw [List.length_append]; omega),List.length_append, <- Nat.add_assoc]; exact k.tl
  · show (if n < b + c.length then g n else f n) = A
    rw [List.length_append] at h2
    split
    · exact h.xs n hn h1 (by omega)
    · exact k.xs n hn (by omega) (by omega)
  · by_cases hjl : j < c.length
    · rw [List.getElem?_append_left hjl] at hj
      obtain ⟨h1,h2⟩ := h.st j i hj
      have hg : (if b + j < b + c.length then g (b + j) else f (b + j)) = g (b + j) := if_pos (by omega)
      simp only [hg]
      refine ⟨fun v hv => ?_,h2⟩
      obtain ⟨n,e1,h3⟩ := h1 v hv
      refine ⟨n,e1,?_⟩
      rcases h3 with ⟨h3,h4,h5⟩ | h3
      · refine .inl ⟨h3,by rw [List.length_append]; omega,fun s hs => h5 s ?_⟩
        split at hs
        · exact hs
        · rw [hm n (by omega)]; exact hs
      · exact .inr h3
    · rw [List.getElem?_append_right (by omega)] at hj
      obtain ⟨h1,h2⟩ := k.st (j - c.length) i hj
      have hjj : b + c.length + (j - c.length) = b + j := by omega
      rw [hjj] at h1 h2
      have hg : (if b + j < b + c.length then g (b + j) else f (b + j)) = f (b + j) := if_neg (by omega)
      simp only [hg]
      refine ⟨fun v hv => ?_,h2⟩
      obtain ⟨n,e1,h3⟩ := h1 v hv
      refine ⟨n,e1,?_⟩
      rcases h3 with ⟨h3,h4,h5⟩ | h3
      · refine .inl ⟨by omega,by rw [List.length_append]; omega,fun s hs => h5 s ?_⟩
        rw [if_neg (by omega)] at hs
        exact hs
      · exact .inr h3
theorem Lab.group {c : List PIns} {b : Nat} {A : Nat -> Prop} {g : Nat -> Nat -> Prop} {k : Nat} {q w : PIns} (hk : 1 <= k) (hq : q.op = 4 /\ q.x = ((2 * k : Nat) : Int)) (hw : w.op = 4 /\ w.x = ((2 * k + 1 : Nat) : Int)) (h : Lab (fun _ => False) c (b + 1) (fun s => A s \/ s = 2 * k) g) :
    Lab (fun _ => False) (q :: (c ++ [w])) b A fun n => if n <= b \/ b + 1 + c.length < n then A else g n := by
  have hnx : ∀ (i : PIns) (m : Nat),i.op = 4 -> nextS m i = [((m + 1 : Nat) : Int)] := fun i m hi => by unfold nextS; rw [if_neg (by omega),if_neg (by omega),if_neg (by omega)]
  refine ⟨if_pos (.inl (by omega)),if_pos (.inr (by simp; omega)),fun n hn => hn.elim,fun j i hj => ?_⟩
  cases j with
  | zero =>
    simp only [List.getElem?_cons_zero,Option.some.injEq] at hj
    subst hj
    refine ⟨fun v hv => ?_,by rw [hq.1]; decide,fun _ => ⟨k,hk, .inl hq.2⟩⟩
    rw [hnx q _ hq.1] at hv
    simp only [List.mem_cons,List.not_mem_nil,or_false] at hv
    subst hv
    refine ⟨b + 0 + 1,rfl, .inl ⟨by omega,by simp,fun s hs => ?_⟩⟩
    rw [if_neg (by omega)] at hs
    rw [show b + 0 + 1 = b + 1 by omega,h.hd] at hs
    rcases hs with hs | rfl
    · exact .inl (by rw [if_pos (.inl (by omega))]; exact hs)
    · exact .inr ⟨hq.1,hq.2⟩
  | succ j =>
    rw [List.getElem?_cons_succ] at hj
    by_cases hjl : j < c.length
    · rw [List.getElem?_append_left hjl] at hj
      obtain ⟨h1,h2⟩ := h.st j i hj
      have hjj : b + 1 + j = b + (j + 1) := by omega
      rw [hjj] at h1 h2
      have hg : (if b + (j + 1) <= b \/ b + 1 + c.length < b + (j + 1) then A else g (b + (j + 1))) = g (b + (j + 1)) := if_neg (by omega)
      simp only [hg]
      refine ⟨fun v hv => ?_,h2⟩
      obtain ⟨n,e1,h3⟩ := h1 v hv
      refine ⟨n,e1,?_⟩
      rcases h3 with ⟨h3,h4,h5⟩ | ⟨h3,_⟩
      · refine .inl ⟨by omega,by simp; omega,fun s hs => h5 s ?_⟩
        rw [if_neg (by omega)] at hs
        exact hs
      · exact h3.elim
    · rw [List.getElem?_append_right (by omega)] at hj
      have hjc : j = c.length := by
        rcases Nat.eq_or_lt_of_le (show c.length <= j by omega) with h' | h'
        · exact h'.symm
        · rw [List.getElem?_eq_none (by simp; omega)] at hj; cases hj
      subst hjc
      simp only [Nat.sub_self,List.getElem?_cons_zero,Option.some.injEq] at hj
      subst hj
      have hg : (if b + (c.length + 1) <= b \/ b + 1 + c.length < b + (c.length + 1) then A else g (b + (c.length + 1))) = g (b + (c.length + 1)) := if_neg (by omega)
      have ht : g (b + (c.length + 1)) = fun s => A s \/ s = 2 * k := by rw [<- h.tl]; congr 1; omega
      refine ⟨fun v hv => ?_,by rw [hw.1]; decide,fun _ => ⟨k,hk, .inr ⟨hw.2,by rw [hg,ht]; exact .inr rfl⟩⟩⟩
      rw [hnx w _ hw.1] at hv
      simp only [List.mem_cons,List.not_mem_nil,or_false] at hv
      subst hv
      refine ⟨b + (c.length + 1) + 1,rfl, .inl ⟨by omega,by simp; omega,fun s hs => ?_⟩⟩
      rw [if_pos (.inr (by omega))] at hs
      rw [hg,ht]
      exact .inl (.inl hs)
theorem Lab.jp {b e : Nat} {X : Nat -> Prop} (A : Nat -> Prop) (he : X e) : Lab X [jpI e] b A fun _ => A := by
  refine Lab.one (by simp [jpI,mkI]) (by simp [jpI,mkI]) fun v hv => ?_
  simp only [nextS,jpI,mkI,if_true,List.mem_cons,List.not_mem_nil,or_false] at hv
  rw [if_neg (by decide)] at hv
  simp only [List.mem_cons,List.not_mem_nil,or_false] at hv
  exact ⟨e,hv, .inr he⟩
theorem Lab.sp {b o : Nat} {lz : Bool} {X : Nat -> Prop} (A : Nat -> Prop) (he : X o) : Lab X [spI b o lz] b A fun _ => A := by
  have h2 : (spI b o lz).op = 2 := by unfold spI; split <;> rfl
  refine Lab.one (by omega) (by omega) fun v hv => ?_
  unfold nextS at hv
  rw [if_pos h2] at hv
  unfold spI at hv
  split at hv
  · simp only [mkI,List.mem_cons,List.not_mem_nil,or_false] at hv
    rcases hv with rfl | rfl
    · exact ⟨o,rfl, .inr he⟩
    · exact ⟨b + 1,rfl, .inl rfl⟩
  · simp only [mkI,List.mem_cons,List.not_mem_nil,or_false] at hv
    rcases hv with rfl | rfl
    · exact ⟨b + 1,rfl, .inl rfl⟩
    · exact ⟨o,rfl, .inr he⟩
def Labd (X : Nat -> Prop) (c : List PIns) (b : Nat) (A : Nat -> Prop) : Prop := ∃ g,Lab X c b A g
theorem Labd.append {X : Nat -> Prop} {c d : List PIns} {b e : Nat} {A : Nat -> Prop} (h : Labd X c b A) (he : e = b + c.length) (k : Labd X d e A) : Labd X (c ++ d) b A := by
  obtain ⟨g,h⟩ := h; obtain ⟨f,k⟩ := k; exact ⟨_,h.append he k⟩
theorem repC_lab {A : Nat -> Prop} {c : Nat -> List PIns} {z : Nat} (hl : ∀ b,(c b).length = z) (hc : ∀ b,Labd (fun _ => False) (c b) b A) : ∀ k b,Labd (fun _ => False) (repC c z k b) b A
  | 0,b => ⟨_, .nil _ b A⟩
  | k + 1,b => (hc b).append (by rw [hl]) (repC_lab hl hc k (b + z))
theorem optC_lab {A : Nat -> Prop} {c : Nat -> List PIns} {z e : Nat} {lz : Bool} (hl : ∀ b,(c b).length = z) (hc : ∀ b,Labd (fun _ => False) (c b) b A) : ∀ k b,b + k * (z + 1) <= e -> Labd (fun n => n = e) (optC (fun s => spI s e lz) c z k b) b A
  | 0,b,_ => ⟨_, .nil _ b A⟩
  | k + 1,b,he => by
    rw [Nat.add_mul] at he
    obtain ⟨g,hg⟩ := hc (b + 1)
    have h1 : Labd (fun n => n = e) (c (b + 1)) (b + 1) A := ⟨g,hg.widen (fun n h => h.elim) fun n h => .inr (.inr (by rw [hl]; omega))⟩
    have h2 := h1.append (e := b + 1 + z) (by rw [hl]) (optC_lab (lz := lz) hl hc k (b + 1 + z) (by omega))
    exact Labd.append (c := [_]) ⟨_,Lab.sp A rfl⟩ (e := b + 1) rfl h2
theorem Labd.widen {X Y : Nat -> Prop} {c : List PIns} {b : Nat} {A : Nat -> Prop} (h : Labd X c b A) (h1 : ∀ n,X n -> Y n) (h2 : ∀ n,Y n -> X n \/ n <= b \/ b + c.length <= n) : Labd Y c b A := by
  obtain ⟨g,h⟩ := h; exact ⟨g,h.widen h1 h2⟩
theorem Labd.close {X Y : Nat -> Prop} {c : List PIns} {b : Nat} {A : Nat -> Prop} (h : Labd X c b A) (h1 : ∀ n,Y n -> X n) (h2 : ∀ n,X n -> Y n \/ (b <= n /\ n <= b + c.length)) : Labd Y c b A := by
  obtain ⟨g,h⟩ := h; exact ⟨g,h.close h1 h2⟩
theorem rptC_lab {A : Nat -> Prop} {n : Nod} {c : Nat -> List PIns} {z : Nat} (hl : ∀ b,(c b).length = z) (hc : ∀ b,Labd (fun _ => False) (c b) b A) (b : Nat) : Labd (fun _ => False) (rptC n c z b) b A := by
  have hr := repC_lab hl hc n.mn.toNat b
  have hrl : (repC c z n.mn.toNat b).length = n.mn.toNat * z := repC_len hl _ _
  unfold rptC
  split
  · refine hr.append (e := b + n.mn.toNat * z) (by rw [hrl]) ?_
    generalize b + n.mn.toNat * z = s
    have h1 : Labd (fun n => n = s \/ n = s + z + 2) (c (s + 1)) (s + 1) A := (hc (s + 1)).widen (fun n h => h.elim) fun n h => by rw [hl]; omega
    have h2 : Labd (fun n => n = s \/ n = s + z + 2) [jpI s] (s + 1 + z) A := ⟨_,Lab.jp A (.inl rfl)⟩
    have h3 := Labd.append (c := [spI s (s + z + 2) n.lz]) (b := s) ⟨_,Lab.sp A (.inr rfl)⟩ (e := s + 1) rfl (h1.append (by rw [hl]) h2)
    refine Labd.close h3 (fun n h => h.elim) fun n h => .inr ?_
    simp only [List.length_append,List.length_cons,List.length_nil,hl]
    omega
  · refine hr.append (e := b + n.mn.toNat * z) (by rw [hrl]) ?_
    generalize b + n.mn.toNat * z = s
    have h1 := optC_lab (lz := n.lz) (e := s + (n.mx.toNat - n.mn.toNat) * (z + 1)) hl hc (n.mx.toNat - n.mn.toNat) s (Nat.le_refl _)
    refine Labd.close h1 (fun n h => h.elim) fun n h => .inr ?_
    rw [optC_len hl]
    omega
mutual
theorem codeT_lab : ∀ (t : Tr) (b : Nat) (A : Nat -> Prop),t.ok -> Labd (fun _ => False) (codeT t b) b A
  | .mk n ks,b,A,h => by
    have hlen := codeT_len (.mk n ks) b h
    simp only [Tr.ok] at h
    obtain ⟨h1,h2⟩ := h
    have hcl := fun b => catT_len ks b h2
    have hnx : ∀ (op x y : Int) (rs : List Rg) (m : Nat),op ≠ 2 -> op ≠ 3 -> op ≠ 7 -> ∀ v ∈ nextS m (mkI op x y rs), ∃ n : Nat,v = (n : Int) /\ (n = m + 1 \/ False) := by
      intro op x y rs m a1 a2 a3 v hv
      unfold nextS at hv
      rw [if_neg (show ¬ (mkI op x y rs).op = 2 from a1),if_neg (show ¬ (mkI op x y rs).op = 3 from a2),if_neg (show ¬ (mkI op x y rs).op = 7 from a3)] at hv
      simp only [List.mem_cons,List.not_mem_nil,or_false] at hv
      exact ⟨m + 1,hv, .inl rfl⟩
    simp only [codeT]
    split
    · exact ⟨_,Lab.one (by simp [mkI]) (by simp [mkI]) (hnx 1 0 0 _ b (by decide) (by decide) (by decide))⟩
    · split
      · exact ⟨_,Lab.one (by simp [mkI]) (by simp [mkI]) (hnx 5 0 0 _ b (by decide) (by decide) (by decide))⟩
      · split
        · exact ⟨_,Lab.one (by simp [mkI]) (by simp [mkI]) (hnx 6 0 0 _ b (by decide) (by decide) (by decide))⟩
        · split
          · exact catT_lab ks b A h2
          · split
            · rename_i h4
              have hz : nodSz n ks.sz ks.len = ks.sz + 2 * (ks.len - 1) := by unfold nodSz; rw [if_neg (by omega),if_pos h4]
              have ha := altT_len (jpI (b + nodSz n ks.sz ks.len)) ks b h2
              refine Labd.close (X := fun m => m = b + nodSz n ks.sz ks.len) ?_ (fun n h => h.elim) fun m hm => .inr ?_
              · exact altT_lab _ ks b A h2 (by rw [ha,hz]; omega)
              · rw [ha]; rw [hz] at hm; omega
            · split
              · exact rptC_lab hcl (fun b => catT_lab ks b A h2) b
              · split
                · rename_i h6
                  obtain ⟨g,hg⟩ := catT_lab ks (b + 1) (fun s => A s \/ s = 2 * n.cap.toNat) h2
                  have hcap : 1 <= n.cap := by
                    rcases h1.2 with h | h | h | h | h <;> omega
                  exact ⟨_,Lab.group (k := n.cap.toNat) (by omega) ⟨rfl,by show 2 * n.cap = _; omega⟩ ⟨rfl,by show 2 * n.cap + 1 = _; omega⟩ hg⟩
                · exact ⟨_, .nil _ b A⟩
theorem catT_lab : ∀ (ts : Trs) (b : Nat) (A : Nat -> Prop),ts.ok -> Labd (fun _ => False) (catT ts b) b A
  | .nil,b,A,_ => by simp only [catT]; exact ⟨_, .nil _ b A⟩
  | .cons t ts,b,A,h => by
    simp only [Trs.ok] at h
    simp only [catT]
    exact (codeT_lab t b A h.1).append (by rw [codeT_len t b h.1]) (catT_lab ts (b + t.sz) A h.2)
theorem altT_lab (e : Nat) : ∀ (ts : Trs) (b : Nat) (A : Nat -> Prop),ts.ok -> b + (altT (jpI e) ts b).length <= e -> Labd (fun n => n = e) (altT (jpI e) ts b) b A
  | .nil,b,A,_,_ => by simp only [altT]; exact ⟨_, .nil _ b A⟩
  | .cons t ts,b,A,h,he => by
    simp only [Trs.ok] at h
    simp only [altT] at he ⊢
    split
    · rename_i h0
      rw [if_pos h0] at he
      exact (codeT_lab t b A h.1).widen (fun n h => h.elim) fun n hn => .inr (.inr (by omega))
    · rename_i h0
      rw [if_neg h0] at he
      simp only [List.length_cons,List.length_append,codeT_len t (b + 1) h.1] at he
      have h1 : Labd (fun n => n = e \/ n = b + 1 + t.sz + 1) (codeT t (b + 1)) (b + 1) A := (codeT_lab t (b + 1) A h.1).widen (fun n h => h.elim) fun n hn => .inr (.inr (by rw [codeT_len t (b + 1) h.1]; omega))
      have h2 : Labd (fun n => n = e \/ n = b + 1 + t.sz + 1) (altT (jpI e) ts (b + t.sz + 2)) (b + t.sz + 2) A := (altT_lab e ts (b + t.sz + 2) A h.2 (by omega)).widen (fun n h => .inl h) fun n hn => by omega
      have h3 : Labd (fun n => n = e \/ n = b + 1 + t.sz + 1) (jpI e :: altT (jpI e) ts (b + t.sz + 2)) (b + 1 + t.sz) A := Labd.append (c := [jpI e]) ⟨_,Lab.jp A (.inl rfl)⟩ (e := b + t.sz + 2) (by simp only [List.length_cons,List.length_nil]; omega) h2
      have h4 := Labd.append (c := [spI b (b + 1 + t.sz + 1) false]) (b := b) ⟨_,Lab.sp A (.inr rfl)⟩ (e := b + 1) rfl (h1.append (by rw [codeT_len t (b + 1) h.1]) h3)
      refine Labd.close h4 (fun n h => .inl h) fun n hn => ?_
      rcases hn with hn | hn
      · exact .inl hn
      · refine .inr ?_
        simp only [List.length_append,List.length_cons,List.length_nil,codeT_len t (b + 1) h.1]
        omega
end
structure IP (gs : List (Nat × Nat)) (pl : List Int) (g : Nat -> Nat -> Prop) (n i : Nat) (t : Tr3) : Prop where
  le : i <= t.at_
  ml : t.at_ <= gs.length
  z : t.pc = 0 -> t.c = noCaps /\ t.at_ = i
  b0 : 1 <= t.pc -> t.c 0 = pl.getD i 0
  b1 : t.pc <= n + 1 -> t.c 1 = -1
  b2 : t.pc = n + 2 -> t.c 1 = pl.getD t.at_ 0
  ins : ∀ s,2 <= s -> t.c s = -1 \/ ∃ a,i <= a /\ a <= t.at_ /\ t.c s = pl.getD a 0
  gr : 1 <= t.pc -> t.pc <= n + 1 -> ∀ s,g t.pc s -> s ≠ 0 -> t.c s ≠ -1
  pr : ∀ k,1 <= k -> t.c (2 * k + 1) ≠ -1 -> t.c (2 * k) ≠ -1
theorem IP.go {gs : List (Nat × Nat)} {pl : List Int} {g : Nat -> Nat -> Prop} {n i : Nat} {t : Tr3} {m a : Nat} (h : IP gs pl g n i t) (h1 : 1 <= t.pc) (h2 : t.pc <= n) (hm : 1 <= m /\ m <= n + 1) (ha : t.at_ <= a /\ a <= gs.length) (hg : ∀ s,g m s -> g t.pc s) : IP gs pl g n i ⟨m,a,t.c⟩ := by
  refine ⟨Nat.le_trans h.le ha.1,ha.2,fun h0 => ?_,fun _ => h.b0 h1,fun _ => h.b1 (by omega),fun h0 => ?_,fun s hs => ?_,fun _ _ s hs h0 => h.gr h1 (by omega) s (hg s hs) h0,h.pr⟩
  · simp only at h0; omega
  · simp only at h0; omega
  · rcases h.ins s hs with h3 | ⟨b,h3,h4,h5⟩
    · exact .inl h3
    · exact .inr ⟨b,h3,Nat.le_trans h4 ha.1,h5⟩
theorem IP.save {gs : List (Nat × Nat)} {pl : List Int} {g : Nat -> Nat -> Prop} {n i : Nat} {t : Tr3} {x : Nat} (hpl : ∀ a,0 <= pl.getD a 0) (h : IP gs pl g n i t) (h1 : 1 <= t.pc) (h2 : t.pc <= n) (hx : ∃ k,1 <= k /\ (x = 2 * k \/ (x = 2 * k + 1 /\ g t.pc (2 * k)))) (hg : ∀ s,g (t.pc + 1) s -> g t.pc s \/ x = s) : IP gs pl g n i ⟨t.pc + 1,t.at_,setC t.c x (pl.getD t.at_ 0)⟩ := by
  obtain ⟨k,hk,hx⟩ := hx
  have hp := hpl t.at_
  refine ⟨h.le,h.ml,fun h0 => ?_,fun _ => ?_,fun _ => ?_,fun h0 => ?_,fun s hs => ?_,fun _ _ s hs h0 => ?_,fun q hq hn => ?_⟩
  · simp only at h0; omega
  · show setC t.c x _ 0 = _; unfold setC; rw [if_neg (by omega)]; exact h.b0 h1
  · show setC t.c x _ 1 = _; unfold setC; rw [if_neg (by omega)]; exact h.b1 (by omega)
  · simp only at h0; omega
  · show setC t.c x _ s = _ \/ _
    by_cases he : s = x
    · exact .inr ⟨t.at_,h.le,Nat.le_refl _,by show setC t.c x _ s = _; unfold setC; rw [if_pos he]⟩
    · unfold setC; rw [if_neg he]
      rcases h.ins s hs with h3 | h3
      · exact .inl h3
      · exact .inr (by simpa only [he,if_false] using h3)
  · show setC t.c x _ s ≠ _
    unfold setC
    split
    · omega
    · rename_i he
      rcases hg s hs with h3 | h3
      · exact h.gr h1 (by omega) s h3 h0
      · exact absurd h3.symm he
  · change setC t.c x _ (2 * q + 1) ≠ -1 at hn
    show setC t.c x _ (2 * q) ≠ -1
    unfold setC at hn ⊢
    split
    · omega
    · rename_i he
      split at hn
      · rename_i he2
        rcases hx with hx | ⟨hx,hgk⟩
        · omega
        · have : q = k := by omega
          subst this
          exact h.gr h1 (by omega) _ hgk (by omega)
      · exact h.pr q hq hn
theorem IP.step {tr : Tr} {r : Nat} {gs : List (Nat × Nat)} {pl : List Int} {g : Nat -> Nat -> Prop} {i : Nat} {t : Tr3} {l : List Tr3} (hpl : ∀ a,0 <= pl.getD a 0) (hL : Lab (fun _ => False) (codeT tr 1) 1 (fun s => s = 0) g)
    (h : IP gs pl g (codeT tr 1).length i t) (hs : stepS (ruleC tr 0 r) gs pl t = .more l) : ∀ t' ∈ l,IP gs pl g (codeT tr 1).length i t' := by
  generalize hn : (codeT tr 1).length = n at *
  have hn' : (codeT tr (0 + 1)).length = n := hn
  have hc0 : (ruleC tr 0 r)[0]? = some (mkI 4 0 0 []) := rfl
  have hc1 : ∀ j,j < n -> (ruleC tr 0 r)[j + 1]? = (codeT tr 1)[j]? := fun j hj => by
    show (mkI 4 0 0 [] :: (codeT tr (0 + 1) ++ _))[j + 1]? = _
    rw [List.getElem?_cons_succ,List.getElem?_append_left (by omega)]
  have hc2 : (ruleC tr 0 r)[n + 1]? = some (mkI 4 1 0 []) := by
    show (mkI 4 0 0 [] :: (codeT tr (0 + 1) ++ _))[n + 1]? = _
    rw [List.getElem?_cons_succ,List.getElem?_append_right (by omega),show n - (codeT tr (0 + 1)).length = 0 by omega]; rfl
  have hc3 : ∀ j,n + 1 <= j -> (ruleC tr 0 r)[j + 1]? = none \/ (ruleC tr 0 r)[j + 1]? = some (mkI 7 (r : Nat) 0 []) := fun j hj => by
    show (mkI 4 0 0 [] :: (codeT tr (0 + 1) ++ _))[j + 1]? = _ \/ (mkI 4 0 0 [] :: (codeT tr (0 + 1) ++ _))[j + 1]? = _
    rw [List.getElem?_cons_succ,List.getElem?_append_right (by omega)]
    obtain ⟨q,hq⟩ : ∃ q,j - (codeT tr (0 + 1)).length = q + 1 := ⟨j - (codeT tr (0 + 1)).length - 1,by omega⟩
    rw [hq,List.getElem?_cons_succ]
    cases q with
    | zero => exact .inr rfl
    | succ q => exact .inl rfl
  unfold stepS at hs
  obtain ⟨pc,at_,c⟩ := t
  simp only at hs
  rcases pc with _ | j
  · rw [hc0] at hs
    obtain ⟨hz,he⟩ := h.z rfl
    simp only at hz he
    subst hz; subst he
    change Res.more [⟨0 + 1,at_,setC noCaps (Int.toNat 0) (pl.getD at_ 0)⟩] = .more l at hs
    cases hs
    intro t' ht
    simp only [List.mem_cons,List.not_mem_nil,or_false] at ht
    subst ht
    refine ⟨Nat.le_refl _,h.ml,fun h0 => by simp at h0,fun _ => rfl,fun _ => rfl,fun h0 => by simp at h0,fun s hs => .inl ?_,fun _ _ s hs h0 => ?_,fun q hq hn => ?_⟩
    · show setC noCaps 0 _ s = -1; unfold setC; rw [if_neg (by omega)]; rfl
    · have h9 := hL.hd; change g 1 s at hs; rw [h9] at hs; exact absurd hs h0
    · exact absurd (show setC noCaps (Int.toNat 0) (pl.getD at_ 0) (2 * q + 1) = -1 by unfold setC; rw [if_neg (by simp)]; rfl) hn
  · by_cases hj : j < n
    · rw [hc1 j hj] at hs
      split at hs
      · cases hs; intro t' ht; cases ht
      · rename_i ins hi
        obtain ⟨hnx,h7,h4⟩ := hL.st j ins hi
        rw [show 1 + j = j + 1 by omega] at hnx h4
        have hsucc : ∀ v ∈ nextS (j + 1) ins, ∃ m : Nat,v = (m : Int) /\ (1 <= m /\ m <= n + 1) /\ ∀ s,g m s -> g (j + 1) s \/ (ins.op = 4 /\ ins.x = (s : Int)) := fun v hv => by
          obtain ⟨m,e,h1⟩ := hnx v hv
          rcases h1 with ⟨h1,h2,h3⟩ | ⟨h1,_⟩
          · exact ⟨m,e,⟨h1,by omega⟩,h3⟩
          · exact h1.elim
        have hgo : ins.op ≠ 4 -> ∀ v ∈ nextS (j + 1) ins, ∀ a,at_ <= a -> a <= gs.length -> IP gs pl g n i ⟨v.toNat,a,c⟩ := fun h4 v hv a h1 h2 => by
          obtain ⟨m,rfl,hm,hg⟩ := hsucc v hv
          exact h.go (by simp) (by simp; omega) (by simpa using hm) ⟨h1,h2⟩ fun s hs => (hg s (by simpa using hs)).elim id fun h => absurd h.1 h4
        rw [if_neg h7] at hs
        by_cases h2 : ins.op = 2
        · rw [if_pos h2] at hs; cases hs
          intro t' ht
          simp only [List.mem_cons,List.not_mem_nil,or_false] at ht
          have hn2 : nextS (j + 1) ins = [ins.x,ins.y] := by unfold nextS; rw [if_pos h2]
          rcases ht with rfl | rfl
          · exact hgo (by omega) _ (by rw [hn2]; simp) _ (Nat.le_refl _) h.ml
          · exact hgo (by omega) _ (by rw [hn2]; simp) _ (Nat.le_refl _) h.ml
        · rw [if_neg h2] at hs
          by_cases h3 : ins.op = 3
          · rw [if_pos h3] at hs; cases hs
            intro t' ht
            simp only [List.mem_cons,List.not_mem_nil,or_false] at ht
            subst ht
            exact hgo (by omega) ins.x (by unfold nextS; rw [if_neg h2,if_pos h3]; simp) _ (Nat.le_refl _) h.ml
          · rw [if_neg h3] at hs
            have hn1 : nextS (j + 1) ins = [((j + 1 + 1 : Nat) : Int)] := by unfold nextS; rw [if_neg h2,if_neg h3,if_neg h7]
            by_cases h4' : ins.op = 4
            · rw [if_pos h4'] at hs; cases hs
              intro t' ht
              simp only [List.mem_cons,List.not_mem_nil,or_false] at ht
              subst ht
              obtain ⟨k,hk,hx⟩ := h4 h4'
              obtain ⟨m,e,hm,hg⟩ := hsucc ((j + 1 + 1 : Nat) : Int) (by rw [hn1]; simp)
              have hm' : m = j + 1 + 1 := by omega
              subst hm'
              refine h.save hpl (by simp) (by simp; omega) ⟨k,hk,?_⟩ fun s hs => ?_
              · rcases hx with hx | ⟨hx,hgk⟩
                · exact .inl (by omega)
                · exact .inr ⟨by omega,hgk⟩
              · rcases hg s hs with h5 | ⟨_,h5⟩
                · exact .inl h5
                · exact .inr (by omega)
            · rw [if_neg h4'] at hs
              have hgo1 := hgo h4' ((j + 1 + 1 : Nat) : Int) (by rw [hn1]; simp)
              simp only [Int.toNat_natCast] at hgo1
              split at hs
              · cases hs
                intro t' ht
                split at ht
                · simp only [List.mem_cons,List.not_mem_nil,or_false] at ht; subst ht; exact hgo1 _ (Nat.le_refl _) h.ml
                · cases ht
              · split at hs
                · cases hs
                  intro t' ht
                  split at ht
                  · simp only [List.mem_cons,List.not_mem_nil,or_false] at ht; subst ht; exact hgo1 _ (Nat.le_refl _) h.ml
                  · cases ht
                · cases hs
                  intro t' ht
                  split at ht
                  · rename_i hlt
                    simp only [List.mem_cons,List.not_mem_nil,or_false] at ht; subst ht; exact hgo1 _ (by omega) (by omega)
                  · cases ht
    · by_cases hj2 : j = n
      · subst hj2
        rw [hc2] at hs
        change Res.more [⟨_ + 1,at_,setC c (Int.toNat 1) (pl.getD at_ 0)⟩] = .more l at hs
        cases hs
        intro t' ht
        simp only [List.mem_cons,List.not_mem_nil,or_false] at ht
        subst ht
        refine ⟨h.le,h.ml,fun h0 => by simp at h0,fun _ => ?_,fun h0 => (by change j + 1 + 1 <= j + 1 at h0; omega),fun _ => rfl,fun s hs => ?_,fun _ h0 => (by change j + 1 + 1 <= j + 1 at h0; omega),fun q hq hn => ?_⟩
        · exact h.b0 (by simp)
        · have := h.ins s hs
          show setC c 1 _ s = _ \/ ∃ a,_ /\ _ /\ setC c 1 _ s = _
          unfold setC; rw [if_neg (by omega)]; exact this
        · change setC c 1 _ (2 * q + 1) ≠ -1 at hn
          show setC c 1 _ (2 * q) ≠ -1
          unfold setC at hn ⊢
          rw [if_neg (by omega)] at hn ⊢
          exact h.pr q hq hn
      · rcases hc3 j (by omega) with h9 | h9
        · rw [h9] at hs; cases hs; intro t' ht; cases ht
        · rw [h9] at hs
          simp only [mkI,if_true] at hs
          cases hs
theorem IP.found {tr : Tr} {r : Nat} {gs : List (Nat × Nat)} {pl : List Int} {g : Nat -> Nat -> Prop} {i : Nat} {t : Tr3} (hL : Lab (fun _ => False) (codeT tr 1) 1 (fun s => s = 0) g)
    (h : IP gs pl g (codeT tr 1).length i t) (hs : stepS (ruleC tr 0 r) gs pl t = .found) : t.c 0 = pl.getD i 0 /\ t.c 1 = pl.getD t.at_ 0 := by
  have hop : ∃ q,(ruleC tr 0 r)[t.pc]? = some q /\ q.op = 7 := by
    unfold stepS at hs
    split at hs
    · cases hs
    · rename_i q hq
      refine ⟨q,hq,?_⟩
      split at hs
      · assumption
      · repeat' split at hs
        all_goals cases hs
  obtain ⟨q,hq,h7⟩ := hop
  have hlen : (ruleC tr 0 r).length = (codeT tr 1).length + 3 := by
    show (mkI 4 0 0 [] :: (codeT tr (0 + 1) ++ _)).length = _
    simp only [List.length_cons,List.length_append,List.length_nil]
  have hlt := lt_get hq
  have hpc : t.pc = (codeT tr 1).length + 2 := by
    rcases Nat.eq_zero_or_pos t.pc with h0 | h0
    · rw [h0] at hq; cases hq; cases h7
    · obtain ⟨j,hj⟩ : ∃ j,t.pc = j + 1 := ⟨t.pc - 1,by omega⟩
      rw [hj] at hq hlt
      by_cases h1 : j < (codeT tr 1).length
      · have hq2 : (codeT tr 1)[j]? = some q := by
          rw [<- hq]
          show _ = (mkI 4 0 0 [] :: (codeT tr (0 + 1) ++ _))[j + 1]?
          rw [List.getElem?_cons_succ,List.getElem?_append_left h1]
        exact absurd h7 (hL.st j q hq2).2.1
      · by_cases h2 : j = (codeT tr 1).length
        · have hq2 : (ruleC tr 0 r)[j + 1]? = some (mkI 4 1 0 []) := by
            show (mkI 4 0 0 [] :: (codeT tr (0 + 1) ++ _))[j + 1]? = _
            rw [List.getElem?_cons_succ,List.getElem?_append_right (by rw [h2]; exact Nat.le_refl _),show j - (codeT tr (0 + 1)).length = 0 by rw [h2]; exact Nat.sub_self _]; rfl
          rw [hq2] at hq; cases hq; cases h7
        · omega
  exact ⟨h.b0 (by omega),h.b2 hpc⟩
theorem plS_at : ∀ (l : List (Nat × Nat)) (a : Int) (j : Nat),j <= l.length -> (plS a l)[j]? = some (a + (((l.take j).map (·.2)).sum : Nat))
  | [],a,j,h => by
    have : j = 0 := by simpa using h
    subst this; simp [plS]
  | g :: r,a,0,_ => by simp [plS]
  | g :: r,a,j + 1,h => by
    simp only [List.length_cons] at h
    simp only [plS,List.getElem?_cons_succ,List.take_succ_cons,List.map_cons,List.sum_cons]
    rw [plS_at r _ j (by omega)]
    congr 1; omega
theorem plS_getD (l : List (Nat × Nat)) (j : Nat) (h : j <= l.length) : (plS 0 l).getD j 0 = (((l.take j).map (·.2)).sum : Nat) := by
  rw [List.getD_eq_getElem?_getD,plS_at l 0 j h]; simp
theorem sum_take_le : ∀ (l : List Nat) (i j : Nat),i <= j -> (l.take i).sum <= (l.take j).sum
  | [],i,j,_ => by simp
  | x :: l,0,j,_ => by simp
  | x :: l,i + 1,j + 1,h => by
    simp only [List.take_succ_cons,List.sum_cons]
    have := sum_take_le l i j (by omega)
    omega
mutual
theorem Tr.uniq : ∀ (t u : Tr) (x y : List Nod),t.ok -> u.ok -> t.flat ++ x = u.flat ++ y -> t = u /\ x = y
  | .mk n ks, .mk m js,x,y,h1,h2,e => by
    simp only [Tr.flat,List.cons_append,List.cons.injEq] at e
    obtain ⟨rfl,e⟩ := e
    simp only [Tr.ok] at h1 h2
    have k1 := h1.1.1
    have k2 := h2.1.1
    obtain ⟨rfl,e2⟩ := Trs.uniq ks js x y h1.2 h2.2 (by omega) e
    exact ⟨rfl,e2⟩
theorem Trs.uniq : ∀ (ts us : Trs) (x y : List Nod),ts.ok -> us.ok -> ts.len = us.len -> ts.flat ++ x = us.flat ++ y -> ts = us /\ x = y
  | .nil, .nil,x,y,_,_,_,e => ⟨rfl,by simpa [Trs.flat] using e⟩
  | .cons t ts, .cons u us,x,y,h1,h2,hl,e => by
    simp only [Trs.flat,List.append_assoc] at e
    simp only [Trs.ok] at h1 h2
    simp only [Trs.len] at hl
    obtain ⟨rfl,e2⟩ := Tr.uniq t u _ _ h1.1 h2.1 e
    obtain ⟨rfl,e3⟩ := Trs.uniq ts us x y h1.2 h2.2 (by omega) e2
    exact ⟨rfl,e3⟩
  | .nil, .cons _ _,_,_,_,_,hl,_ => by simp [Trs.len] at hl
  | .cons _ _, .nil,_,_,_,_,hl,_ => by simp [Trs.len] at hl
end
theorem one_ascii {c : UInt8} (h : c.toNat < 128) (y : List UInt8) : oneS (c :: y) = (c.toNat,1) := by
  have hm : moreS c.toNat = (0,0,0) := by unfold moreS; rw [if_pos h]
  have e : firstS (c :: y) = (c.toNat,1,false) := by
    show (if (moreS c.toNat).1 < 0 then (0,0,false) else scanS (moreS c.toNat).1.toNat ((moreS c.toNat).1.toNat + 1) (if (moreS c.toNat).1 > 0 then c.toNat % (64 / 2 ^ (moreS c.toNat).1.toNat) else c.toNat) (moreS c.toNat).2.1 (moreS c.toNat).2.2 y) = _
    rw [hm]; rfl
  unfold oneS; rw [e]; rfl
theorem all_ascii {c : UInt8} (h : c.toNat < 128) (y : List UInt8) : allS (c :: y) = (c.toNat,1) :: allS y := by
  rw [allS_cons (by simp),one_ascii h]; rfl
abbrev Sn := Nat -> Nat -> Bool
def updS (s : Sn) (t : Tr3) : Sn := fun a b => if a = t.pc /\ b = t.at_ then true else s a b
theorem upd_is {s : Sn} {t : Tr3} {a b : Nat} (h : updS s t a b = true) : (a = t.pc /\ b = t.at_) \/ s a b = true := by
 unfold updS at h
 split at h
 ·exact .inl (by assumption)
 ·exact .inr h
inductive Run (stp : Tr3 -> Res) : Sn -> List Tr3 -> Option Cps -> Sn -> Prop
 | nil {s : Sn} : Run stp s [] none s
 | old {s s' : Sn} {t : Tr3} {stk : List Tr3} {r : Option Cps} : s t.pc t.at_ = true -> Run stp s stk r s' -> Run stp s (t :: stk) r s'
 | found {s : Sn} {t : Tr3} {stk : List Tr3} : s t.pc t.at_ = false -> stp t = .found -> Run stp s (t :: stk) (some t.c) (updS s t)
 | more {s s' : Sn} {t : Tr3} {stk l : List Tr3} {r : Option Cps} : s t.pc t.at_ = false -> stp t = .more l -> Run stp (updS s t) (l ++ stk) r s' -> Run stp s (t :: stk) r s'
theorem Run.one {stp : Tr3 -> Res} {s s1 s2 : Sn} {stk : List Tr3} {r1 r2 : Option Cps} (h1 : Run stp s stk r1 s1) : Run stp s stk r2 s2 -> r1 = r2 /\ s1 = s2 := by
 induction h1 with
 | nil => intro h; cases h; exact ⟨rfl,rfl⟩
 | old h _ ih =>
  intro h2
  cases h2 with
  | old _ h' => exact ih h'
  | found h' _ => rw [h] at h'; cases h'
  | more h' _ _ => rw [h] at h'; cases h'
 | found h hf =>
  intro h2
  cases h2 with
  | old h' _ => rw [h] at h'; cases h'
  | found _ _ => exact ⟨rfl,rfl⟩
  | more _ h' _ => rw [hf] at h'; cases h'
 | more h hm _ ih =>
  intro h2
  cases h2 with
  | old h' _ => rw [h] at h'; cases h'
  | found _ h' => rw [hm] at h'; cases h'
  | more _ h' h'' =>
   rw [hm] at h';cases h';exact ih h''
def RelS (idx : Nat -> Nat -> Nat) (ok : Nat -> Nat -> Prop) (arr : List Bool) (s : Sn) : Prop := ∀ a b,ok a b -> arr[idx a b]? = some (s a b)
def InjS (idx : Nat -> Nat -> Nat) (ok : Nat -> Nat -> Prop) : Prop := ∀ a b a' b',ok a b -> ok a' b' -> idx a b = idx a' b' -> a = a' /\ b = b'
def KeepS (stp : Tr3 -> Res) (ok : Nat -> Nat -> Prop) : Prop := ∀ t l,ok t.pc t.at_ -> stp t = .more l -> l.length <= 2 /\ ∀ u ∈ l,ok u.pc u.at_
theorem RelS.upd {idx : Nat -> Nat -> Nat} {ok : Nat -> Nat -> Prop} {arr : List Bool} {s : Sn} {t : Tr3} (hI : InjS idx ok) (ht : ok t.pc t.at_) (h : RelS idx ok arr s) : RelS idx ok (arr.set (idx t.pc t.at_) true) (updS s t) := by
 intro a b hab;unfold updS
 by_cases he : idx a b = idx t.pc t.at_
 ·rw [if_pos (hI _ _ _ _ hab ht he),he];have := lt_get (h _ _ ht);rw [List.getElem?_set_self this]
 ·rw [if_neg (by rintro ⟨rfl,rfl⟩; exact he rfl),List.getElem?_set_ne (fun e => he e.symm)];exact h a b hab
theorem dfsF_run {idx : Nat -> Nat -> Nat} {ok : Nat -> Nat -> Prop} {stp : Tr3 -> Res} (hI : InjS idx ok) (hK : KeepS stp ok) : ∀ (f : Nat) (arr : List Bool) (stk : List Tr3) (s : Sn),3 * arr.count false + stk.length <= f -> RelS idx ok arr s -> (∀ t ∈ stk,ok t.pc t.at_) -> ∃ s',Run stp s stk (dfsF idx stp f arr stk).1 s' /\ RelS idx ok (dfsF idx stp f arr stk).2 s' := by
 intro f
 induction f with
 | zero =>
  intro arr stk s h1 hr _;have : stk = [] := List.length_eq_zero_iff.1 (by omega);subst this;exact ⟨s, .nil,hr⟩
 | succ f ih =>
  intro arr stk s h1 hr hs
  cases stk with
  | nil => exact ⟨s, .nil,hr⟩
  | cons t stk =>
   have ht := hs t (List.mem_cons_self ..);have hs2 : ∀ u ∈ stk,ok u.pc u.at_ := fun u hu => hs u (List.mem_cons_of_mem _ hu);simp only [List.length_cons] at h1;have hb := hr _ _ ht;unfold dfsF;rw [hb]
   cases hst : s t.pc t.at_ with
   | true =>
    obtain ⟨s',h2,h3⟩ := ih arr stk s (by omega) hr hs2;exact ⟨s', .old hst h2,h3⟩
   | false =>
    rw [hst] at hb;have hcnt := count_set hb;simp only
    cases hS : stp t with
    | found => exact ⟨_, .found hst hS,hr.upd hI ht⟩
    | more l =>
     obtain ⟨hl,hok⟩ := hK t l ht hS
     obtain ⟨s',h2,h3⟩ := ih (arr.set (idx t.pc t.at_) true) (l ++ stk) (updS s t) (by rw [List.length_append]; omega) (hr.upd hI ht) (by
      intro u hu
      rcases List.mem_append.1 hu with hu | hu
      ·exact hok u hu
      ·exact hs2 u hu)
     exact ⟨s', .more hst hS h2,h3⟩
theorem mul_inj {n a b a' b' : Nat} (h1 : b < n) (h2 : b' < n) (h : a * n + b = a' * n + b') : a = a' /\ b = b' := by
 have hb : b = b' := by
  have := congrArg (· % n) h;simp only [Nat.mul_add_mod_self_right,Nat.mod_eq_of_lt h1,Nat.mod_eq_of_lt h2] at this;exact this
 subst hb;exact ⟨Nat.eq_of_mul_eq_mul_right (by omega) (by omega : a * n = a' * n),rfl⟩
theorem mul_lt {n m a b : Nat} (h1 : a < m) (h2 : b < n) : a * n + b < m * n := by
 have := Nat.mul_le_mul_right n (show a + 1 <= m by omega);rw [Nat.add_mul,Nat.one_mul] at this;omega
end Go.Proofs.Ytapfahlbkhgdpaa
namespace Go.V
variable {N : Nat} {S st : St} {H : List Ent}
theorem Has.rot (A B : List Ent) (h : Has N S st (A ++ (B ++ H))) : Has N S st (B ++ (A ++ H)) := by
  refine h.sub (fun i => if i < B.length then i + A.length else if i < B.length + A.length then i - B.length else i) (fun a b e => ?_) fun i e hi => ?_
  · have e' : (if a < B.length then a + A.length else if a < B.length + A.length then a - B.length else a) = (if b < B.length then b + A.length else if b < B.length + A.length then b - B.length else b) := e
    repeat' split at e'
    all_goals omega
  · show (A ++ (B ++ H))[if i < B.length then i + A.length else if i < B.length + A.length then i - B.length else i]? = some e
    by_cases h1 : i < B.length
    · rw [if_pos h1,List.getElem?_append_right (by omega),Nat.add_sub_cancel,List.getElem?_append_left h1]
      rwa [List.getElem?_append_left h1] at hi
    · rw [List.getElem?_append_right (by omega)] at hi
      by_cases h2 : i < B.length + A.length
      · rw [if_neg h1,if_pos h2,List.getElem?_append_left (by omega)]
        rwa [List.getElem?_append_left (by omega)] at hi
      · rw [if_neg h1,if_neg h2,List.getElem?_append_right (by omega),List.getElem?_append_right (by omega)]
        rw [List.getElem?_append_right (by omega)] at hi
        rw [<- hi]; congr 1; omega
theorem Has.repl {j : Nat} {e : Ent} (h : Has N S st (e :: H)) (hj : j < H.length) : Has N S st (H.set j e) :=
  Has.back (h.erase (j + 1)) hj
theorem Has.clear {P : Pv} {j : Nat} {x : D} {s : Nat} {es : List (List D)} {t e : TypeId} {z : List D} (h : Has N S st H) (hj : H[j]? = some (.lst x s es)) (ht : P.und t = some (.slice e)) (hz : zeroC P e = some z) (hzl : z.length = s) (hr : refs z = 0) :
    ∃ st',clearD P [t] x st = some (.tup [],st') /\ Has N S st' (H.set j (.lst x s (List.replicate es.length z))) := by
  have hk0 := (h.ok j _ hj).2
  have hown := h.own hj
  have hjl : j < H.length := by
    rcases Nat.lt_or_ge j H.length with h' | h'
    · exact h'
    · rw [List.getElem?_eq_none h'] at hj; cases hj
  cases hown with
  | nul =>
    refine ⟨st,by simp only [clearD,ht],?_⟩
    have : H.set j (.lst .nul s (List.replicate ([] : List (List D)).length z)) = H := by
      refine List.ext_getElem? fun i => ?_
      by_cases hi : i = j
      · subst hi; rw [List.getElem?_set_self hjl,hj]; rfl
      · rw [List.getElem?_set_ne (fun e => hi e.symm)]
    rw [this]; exact h
  | win k ver off es c hm hle hc he =>
    have hk := hk0 k (by simp only [Ent.lst,D.ref])
    have hrf : ∀ n,refs (Go.V.repl n z) = 0 := by
      intro n
      unfold Go.V.repl
      induction n with
      | zero => rfl
      | succ n ih =>
        rw [List.replicate_succ,List.flatten_cons]
        have happ : ∀ (a b : List D),refs a = 0 -> refs b = 0 -> refs (a ++ b) = 0 := by
          intro a
          induction a with
          | nil => intro b _ hb; exact hb
          | cons d a iha =>
            intro b ha hb
            simp only [refs,List.cons_append] at ha ⊢
            have := iha b (by omega) hb
            omega
        exact happ _ _ hr ih
    have hlr : (Go.V.repl es.length z).length = es.length * s := by
      unfold Go.V.repl
      rw [flat_len (s := s) (fun e he => by rw [(List.mem_replicate.1 he).2]; exact hzl),List.length_replicate]
    have hw : st.wr k ver off (Go.V.repl es.length z) = some ⟨st.bs.set k (.mem ver true (c.take off ++ Go.V.repl es.length z ++ c.drop (off + (Go.V.repl es.length z).length))),st.flr,st.ro⟩ := wr_own hm (by omega) (canW_has h hk.1 (.inr (hrf _)))
    refine ⟨_,by simp only [clearD,ht,hz,Option.bind_some]; rw [if_pos hzl,hw]; rfl,?_⟩
    refine h.upd hj (fun n hn hne => ?_) (by simp) rfl rfl ?_ (fun n hn => .inl hn) fun n hn => ?_
    · simp only; rw [List.getElem?_set_ne (fun e => hne (by simp only [Ent.lst,D.ref]; omega))]
    · have hlen' : ∀ e' ∈ List.replicate es.length z,e'.length = s := fun e' he' => by rw [(List.mem_replicate.1 he').2]; exact hzl
      have := OwnP.win (st := ⟨st.bs.set k (.mem ver true (c.take off ++ Go.V.repl es.length z ++ c.drop (off + (Go.V.repl es.length z).length))),st.flr,st.ro⟩) (s := s) k ver off (List.replicate es.length z) (c.take off ++ Go.V.repl es.length z ++ c.drop (off + (Go.V.repl es.length z).length))
        (by simp only; rw [List.getElem?_set_self hk.2]) (by rw [List.length_replicate]; simp; omega) ?_ hlen'
      · rw [List.length_replicate] at this; exact this
      · rw [List.length_replicate,List.append_assoc,List.drop_append_of_le_length (by simp; omega),List.drop_take,Nat.sub_self,List.take_zero,List.nil_append, <- hlr,List.take_left']
        · rfl
        · rfl
    · simp only [Ent.lst,D.ref] at hn
      have : n = k := by omega
      subst this
      simpa using hk.2
variable {P : Pv} {ops : Array Oper} {rest : List Oper} {fr fr' : Fr} {Q : Fr -> St -> Prop} {ty : TypeId} {pp : String} {a : Array Edge} {g : Option (Nat × Bool)} {dst : Nat}
end Go.V
namespace Go.Proofs.Ytapfahlbkhgdpaa
open Go.V Go
def numC (n : Nat) : List D := [.int .i64 (n : Nat)]
def itC (n : Nat) : List D := [.int .i64 (n : Nat), .bool true]
structure SetOk (P Q : List Nat) (seen : List Bool) : Prop where
 len : P.length = seen.length
 mem : ∀ (i p : Nat),P[i]? = some p -> seen[i]? = some (decide (Q[p]? = some i))
 cnt : Q.length = seen.count true
 small : seen.length <= 4096
theorem SetOk.get {P Q : List Nat} {seen : List Bool} (h : SetOk P Q seen) {i : Nat} {b : Bool} (hi : seen[i]? = some b) : ∃ p,P[i]? = some p /\ b = decide (Q[p]? = some i) := by
 have hl := lt_get hi;have hl2 := h.len;refine ⟨P[i]'(by omega),List.getElem?_eq_getElem _,?_⟩;have := h.mem i _ (List.getElem?_eq_getElem (by omega));rw [hi] at this; exact Option.some.inj this
theorem SetOk.add {P Q : List Nat} {seen : List Bool} (h : SetOk P Q seen) {i : Nat} (hi : seen[i]? = some false) : SetOk (P.set i Q.length) (Q ++ [i]) (seen.set i true) := by
 have hl := lt_get hi;have hl2 := h.len;refine ⟨by simp [hl2],fun j p hj => ?_,?_,by rw [List.length_set]; exact h.small⟩
 ·by_cases hij : j = i
  ·subst hij;rw [List.getElem?_set_self (by omega)] at hj ⊢;cases hj;simp
  ·rw [List.getElem?_set_ne (fun e => hij e.symm)] at hj ⊢;rw [h.mem j p hj]
   congr 2
   rcases Nat.lt_trichotomy p Q.length with hp | hp | hp
   ·rw [List.getElem?_append_left hp]
   ·subst hp;have hne : ¬ i = j := fun e => hij e.symm;simp [hne]
   ·rw [List.getElem?_eq_none (by omega),List.getElem?_eq_none (by simp; omega)]
 ·have h1 := List.length_eq_countP_add_countP (fun b => b == true) (l := seen);have h2 := List.length_eq_countP_add_countP (fun b => b == true) (l := seen.set i true);have h3 := count_set hi
  have e1 : ∀ l : List Bool,l.countP (fun a => decide (¬ (a == true) = true)) = l.count false := by
   intro l; unfold List.count; congr 1; funext b; cases b <;> rfl
  have e2 : ∀ l : List Bool,l.countP (fun a => a == true) = l.count true := fun l => rfl;rw [e1,e2] at h1 h2;rw [List.length_append,h.cnt];simp only [List.length_set,List.length_cons,List.length_nil] at h2 ⊢;omega
theorem SetOk.clear {P Q : List Nat} {seen : List Bool} (h : SetOk P Q seen) : SetOk P [] (List.replicate seen.length false) := by
 refine ⟨by rw [List.length_replicate]; exact h.len,fun i p hi => ?_,?_,by rw [List.length_replicate]; exact h.small⟩
 ·have := lt_get hi;have := h.len;rw [List.getElem?_replicate,if_pos (by omega)]; simp
 ·rw [List.count_replicate]; simp
theorem SetOk.len_le {P Q : List Nat} {seen : List Bool} (h : SetOk P Q seen) : Q.length <= 4096 := by
 have := h.cnt; have := h.small; have := List.count_le_length (a := true) (l := seen); omega
end Go.Proofs.Ytapfahlbkhgdpaa
namespace Go.Proofs.Ytapfahlbkhgdpaa
open Go.V Go
structure Thr where
 pc : Nat
 c : Cps
def thrC (t : Thr) : List D := [.int .i64 (t.pc : Nat), .int .i64 (t.c 0), .int .i64 (t.c 1), .int .i64 (t.c 2), .int .i64 (t.c 3), .int .i64 (t.c 4), .int .i64 (t.c 5), .int .i64 (t.c 6), .int .i64 (t.c 7), .int .i64 (t.c 8), .int .i64 (t.c 9)]
def lstC (dn : Bool) (f : Cps) (d : D) : List D := [.bool dn, .int .i64 (f 0), .int .i64 (f 1), .int .i64 (f 2), .int .i64 (f 3), .int .i64 (f 4), .int .i64 (f 5), .int .i64 (f 6), .int .i64 (f 7), .int .i64 (f 8), .int .i64 (f 9),d]
structure Wk where
 seen : List Bool
 dn : Bool
 best : Cps
 rdy : List Thr
def Good (code : List PIns) (w w' : Wk) : Prop :=
 w'.seen.length = w.seen.length /\ w'.seen.count false <= w.seen.count false /\ w'.rdy.length + w'.seen.count false <= w.rdy.length + w.seen.count false /\ ∀ t ∈ w'.rdy,t ∈ w.rdy \/ ∃ i,code[t.pc]? = some i /\ i.op = 1
theorem Good.refl {code : List PIns} {w : Wk} : Good code w w := ⟨rfl,Nat.le_refl _,Nat.le_refl _,fun t h => .inl h⟩
theorem Good.trans {code : List PIns} {a b c : Wk} (h : Good code a b) (k : Good code b c) : Good code a c :=
 ⟨k.1.trans h.1,Nat.le_trans k.2.1 h.2.1,Nat.le_trans k.2.2.1 h.2.2.1,fun t ht => by
  rcases k.2.2.2 t ht with q | q
  ·exact h.2.2.2 t q
  ·exact .inr q⟩
theorem Good.step {code : List PIns} {w w' : Wk} {j : Nat} (hj : w.seen[j]? = some false) (k : Good code ⟨w.seen.set j true,w.dn,w.best,w.rdy⟩ w') : Good code w w' := by
 have hc := count_set hj;refine Good.trans (b := ⟨w.seen.set j true,w.dn,w.best,w.rdy⟩) ⟨?_,?_,?_,fun t h => .inl h⟩ k
 ·simp
 ·show (w.seen.set j true).count false <= _; omega
 ·show w.rdy.length + (w.seen.set j true).count false <= _; omega
end Go.Proofs.Ytapfahlbkhgdpaa
namespace Go.Proofs.Ytapfahlbkhgdpaa
open Go.V Go
structure VL where
 dn : Bool
 best : Cps
 td : D
 ths : List Thr
def vlC (l : VL) : List D := lstC l.dn l.best l.td
def vlE (l : VL) : Ent := .lst l.td 11 (l.ths.map thrC)
def MH (A : List Ent) (N : Nat) (S st : St) (ks kv : Nat) (p : Pg) (pl : Nat) (ld : D) (L : List VL) (H : List Ent) : Prop :=
 ∃ pd qd P Q sn,Has N S st (A ++ (.box kv (.mem 0 false [p.cd,p.sd, .int .i64 (pl : Nat),ld, .ptr ks 0 0]) :: .box ks (.mem 0 false [pd,qd]) :: .lst pd 1 (P.map numC) :: .lst qd 2 (Q.map itC) :: .lst ld 12 (L.map vlC) :: (L.map vlE ++ H))) /\ SetOk P Q sn /\ sn.length = p.code.length
theorem MH.push (A B : List Ent) {N : Nat} {S st : St} {ks kv : Nat} {p : Pg} {pl : Nat} {ld : D} {L : List VL} {H : List Ent} (h : MH (A ++ B) N S st ks kv p pl ld L H) : MH B N S st ks kv p pl ld L (A ++ H) := by
 obtain ⟨pd,qd,P,Q,sn,hH,hok,hsn⟩ := h;refine ⟨pd,qd,P,Q,sn,?_,hok,hsn⟩;have := Has.rot (H := H) A (B ++ (.box kv (.mem 0 false [p.cd,p.sd, .int .i64 (pl : Nat),ld, .ptr ks 0 0]) :: .box ks (.mem 0 false [pd,qd]) :: .lst pd 1 (P.map numC) :: .lst qd 2 (Q.map itC) :: .lst ld 12 (L.map vlC) :: L.map vlE)) (by simpa only [List.append_assoc,List.cons_append] using hH)
 simpa only [List.append_assoc,List.cons_append] using this
end Go.Proofs.Ytapfahlbkhgdpaa
namespace Go.Proofs.Ytapfahlbkhgdpaa
open Go.V Go
structure PL where
 dn : Bool
 best : Cps
 ths : List Thr
def PL.ok (n : Nat) (l : PL) : Prop := (∀ t ∈ l.ths,t.pc < n) /\ l.ths.length <= 1000
end Go.Proofs.Ytapfahlbkhgdpaa
namespace Go.Proofs.Ytapfahlbkhgdpaa
open Go.V Go
def VL.pl (l : VL) : PL := ⟨l.dn,l.best,l.ths⟩
theorem MH.mono {A : List Ent} {N : Nat} {S st : St} {ks kv : Nat} {p : Pg} {pl : Nat} {ld : D} {L : List VL} {H : List Ent} (n : Nat) (h : MH A N S st ks kv p pl ld L H) : MH (A.drop n) N S st ks kv p pl ld L H := by
 obtain ⟨pd,qd,P,Q,sn,hH,hok,hsn⟩ := h;refine ⟨pd,qd,P,Q,sn,?_,hok,hsn⟩
 rcases Nat.le_total n A.length with hn | hn
 ·have := hH.drop n
  rwa [List.drop_append_of_le_length hn] at this
 ·have := hH.drop A.length;rw [List.drop_append_of_le_length (Nat.le_refl _),List.drop_length] at this;rw [List.drop_eq_nil_of_le hn]; exact this
end Go.Proofs.Ytapfahlbkhgdpaa
namespace Go.Proofs.Ytapfahlbkhgdpaa
open Go.V Go
section
variable {stp : Tr3 -> Res}
theorem run_app {s s1 : Sn} {A : List Tr3} {r1 : Option Cps} (h : Run stp s A r1 s1) : ∀ B,(∀ c,r1 = some c -> ∃ s2,Run stp s (A ++ B) (some c) s2) /\ (r1 = none -> ∀ r s2,Run stp s1 B r s2 -> Run stp s (A ++ B) r s2) := by
  induction h with
  | nil => exact fun B => ⟨fun c h => (by cases h),fun _ r s2 h => h⟩
  | old ht _ ih =>
    intro B
    obtain ⟨h1,h2⟩ := ih B
    exact ⟨fun c hc => (by obtain ⟨s2,h⟩ := h1 c hc; exact ⟨s2, .old ht h⟩),fun hn r s2 h => .old ht (h2 hn r s2 h)⟩
  | found ht hf => exact fun B => ⟨fun c hc => (by cases hc; exact ⟨_, .found ht hf⟩),fun hn => (by cases hn)⟩
  | @more s s' t stk l r ht hm _ ih =>
    intro B
    obtain ⟨h1,h2⟩ := ih B
    rw [List.append_assoc] at h1 h2
    exact ⟨fun c hc => (by obtain ⟨s2,h⟩ := h1 c hc; exact ⟨s2, .more ht hm h⟩),fun hn r s2 h => .more ht hm (h2 hn r s2 h)⟩
def Ag (k : Nat) (s s' : Sn) : Prop := ∀ a b,k < b -> s a b = s' a b
theorem Ag.symm {k : Nat} {s s' : Sn} (h : Ag k s s') : Ag k s' s := fun a b hb => (h a b hb).symm
theorem Ag.trans {k : Nat} {s s' s'' : Sn} (h : Ag k s s') (h2 : Ag k s' s'') : Ag k s s'' := fun a b hb => (h a b hb).trans (h2 a b hb)
theorem Ag.upd {k : Nat} {s : Sn} {t : Tr3} (ht : t.at_ = k) : Ag k s (updS s t) := fun a b hb => by
  unfold updS; rw [if_neg (by omega)]
end
section
variable {code : List PIns} {ns : Nat} {gs : List (Nat × Nat)} {pls : List Int} {k pl : Nat} {e : Bool}
end
theorem findP_run {idx : Nat -> Nat -> Nat} {ok : Nat -> Nat -> Prop} {stp : Tr3 -> Res} (hI : InjS idx ok) (hK : KeepS stp ok) {fuel start : Nat} : ∀ (m i : Nat) (arr : List Bool) (V : Sn),RelS idx ok arr V -> (∀ j,j < i + m -> ok start j) -> 3 * arr.length + 1 <= fuel -> ∃ s',Run stp V ((List.range' i m).map fun j => ⟨start,j,noCaps⟩) (findP idx stp fuel start m i arr) s'
  | 0,i,arr,V,_,_,_ => ⟨V, .nil⟩
  | m + 1,i,arr,V,hr,hst,hf => by
    have hc1 := List.count_le_length (a := false) (l := arr)
    obtain ⟨sP,hrun,hrel⟩ := dfsF_run hI hK fuel arr [⟨start,i,noCaps⟩] V (by simp only [List.length_cons,List.length_nil]; omega) hr (fun t ht => by
      simp only [List.mem_cons,List.not_mem_nil,or_false] at ht
      subst ht
      exact hst i (by omega))
    unfold findP
    rw [List.range'_succ,List.map_cons]
    cases hQ : (dfsF idx stp fuel arr [⟨start,i,noCaps⟩]).1 with
    | some c =>
      rw [hQ] at hrun
      exact (run_app hrun _).1 c rfl
    | none =>
      rw [hQ] at hrun
      obtain ⟨s',h⟩ := findP_run hI hK m (i + 1) _ sP hrel (fun j hj => hst j (by omega)) (by rw [dfsF_len]; exact hf)
      exact ⟨s',(run_app hrun _).2 rfl _ _ h⟩
end Go.Proofs.Ytapfahlbkhgdpaa
namespace Go.Proofs.Ytapfahlbkhgdpaa
open Go.V Go
theorem find_run {p : Pg} (hR : RightQ p) {r : Nat} {start : Int} (hs : p.starts[r]? = some start) (b : List UInt8) : ∃ s',Run (stepS p.code (allS b) (plS 0 (allS b))) (fun _ _ => false) ((List.range' 0 ((allS b).length + 1)).map fun j => ⟨start.toNat,j,noCaps⟩) (progFind p (r : Nat) b) s' := by
  have hst := hR.st start (List.mem_of_getElem? hs)
  have hlt := lt_get hs
  unfold progFind
  rw [if_pos ⟨dec_yes hR,by omega,by omega⟩]
  have hgd : (p.starts.getD ((r : Nat) : Int).toNat 0).toNat = start.toNat := by
    rw [Int.toNat_natCast,List.getD_eq_getElem?_getD,hs]; rfl
  rw [hgd]
  generalize allS b = gs at *
  exact findP_run (idx := idxP p.code.length) (ok := fun a b => a < p.code.length /\ b <= gs.length) (stp := stepS p.code gs (plS 0 gs)) (fuel := 3 * ((gs.length + 1) * p.code.length) + 1) (start := start.toNat) (by
      rintro a b a' b' ⟨q1,q2⟩ ⟨q3,q4⟩ he
      obtain ⟨r1,r2⟩ := mul_inj q1 q3 he
      exact ⟨r2,r1⟩) (fun t l ht hl => ⟨step_len _ _ _ _ _ hl,fun u hu => step_ok (p := p) hR ht l hl u hu⟩) (gs.length + 1) 0 (List.replicate ((gs.length + 1) * p.code.length) false) (fun _ _ => false) (by
      rintro a b ⟨q1,q2⟩
      unfold idxP
      rw [List.getElem?_replicate,if_pos (mul_lt (by omega) q1)]) (fun j hj => ⟨by omega,by omega⟩) (by rw [List.length_replicate]; exact Nat.le_refl _)
end Go.Proofs.Ytapfahlbkhgdpaa
namespace Go.Proofs.Ytapfahlbkhgdpaa
open Go.V Go
end Go.Proofs.Ytapfahlbkhgdpaa
namespace Go.Proofs.Ytapfahlbkhgdpaa
open Go.V Go
theorem repG_no {gs : List (Nat × Nat)} {l : List Nod} {g j : Nat} (h : ∀ r : Int,r = 42 \/ r = 43 \/ r = 63 \/ r = 123 -> isS gs j r = false) : repG gs l g j = .ok (l,g) j := by
  unfold repG
  rw [h 42 (by omega),h 43 (by omega),h 63 (by omega),h 123 (by omega)]
  simp
end Go.Proofs.Ytapfahlbkhgdpaa
namespace Go.Proofs.Ytapfahlbkhgdpaa
open Go.V Go
def Lts (w : List UInt8) : Prop := ∀ c ∈ w,97 <= c.toNat /\ c.toNat <= 122
def wG (w : List UInt8) : List (Nat × Nat) := w.map fun c => (c.toNat,1)
theorem wG_all : ∀ {w : List UInt8},Lts w -> ∀ y,allS (w ++ y) = wG w ++ allS y
  | [],_,y => rfl
  | c :: w,h,y => by
    have h1 := h c (List.mem_cons_self ..)
    show allS (c :: (w ++ y)) = (c.toNat,1) :: (wG w ++ allS y)
    rw [all_ascii (by omega),wG_all (fun x hx => h x (List.mem_cons_of_mem _ hx))]
theorem oneR_is {r : Int} (h0 : 0 <= r) (h1 : r < 55296) : MakeIs [(r,r)] [(r,r)] := by
  refine ⟨⟨fun x hx => ?_,by simp⟩,fun q => ⟨fun hq => ⟨?_,hq⟩,fun hq => hq.2⟩⟩
  · simp only [List.mem_cons,List.not_mem_nil,or_false] at hx; subst hx; exact Int.le_refl _
  · obtain ⟨x,hx,h2,h3⟩ := hq
    simp only [List.mem_cons,List.not_mem_nil,or_false] at hx
    subst hx
    unfold isRune
    simp only at h2 h3
    omega
theorem oneR_eq {r : Int} (h0 : 0 <= r) (h1 : r < 55296) : oneR r = [(r,r)] := makeR_is (oneR_is h0 h1)
def chN (c : UInt8) : Nod := clsN [(((c.toNat : Nat) : Int),((c.toNat : Nat) : Int))]
theorem wG_get {w : List UInt8} {i : Nat} {c : UInt8} (h : w[i]? = some c) : (wG w)[i]? = some (c.toNat,1) := by unfold wG; rw [List.getElem?_map,h]; rfl
theorem wG_is {w : List UInt8} (h : Lts w) (i : Nat) {r : Int} (hr : r < 97 \/ 122 < r) : isS (wG w) i r = false := by
  unfold isS wG
  rw [List.getElem?_map]
  cases hc : w[i]? with
  | none => rfl
  | some c =>
    have := h c (List.mem_of_getElem? hc)
    simp only [Option.map_some,beq_eq_false_iff_ne,ne_eq]
    omega
theorem rep_word {A : PF} {w : List UInt8} (h : Lts w) {m i g : Nat} {c : UInt8} (hc : w[i]? = some c) : repF A (wG w) m i g = .ok ([chN c],g) (i + 1) := by
  have h1 := h c (List.mem_of_getElem? hc)
  have hb : badS (wG w) i = false := by
    unfold badS
    rw [wG_get hc]
    simp only [Bool.and_eq_false_iff,beq_eq_false_iff_ne,ne_eq]
    left; omega
  have ha : atomF A (wG w) m i g = .ok ([chN c],g) (i + 1) := by
    unfold atomF
    rw [wG_get hc]
    simp only [hb,Bool.false_eq_true,if_false]
    unfold atomG
    rw [if_neg (by omega),if_neg (by omega),if_neg (by omega),if_neg (by omega),if_neg (by omega),if_neg (by omega),if_neg (by omega),oneR_eq (by omega) (by omega)]
    rfl
  unfold repF
  rw [ha]
  exact repG_no fun r hr => wG_is h _ (by omega)
theorem cat_word {A : PF} {w : List UInt8} (h : Lts w) : ∀ (n i g : Nat) (ps : List (List Nod)),w.length < n + i -> i <= w.length -> catL A (wG w) 20 n i g ps = .ok (joinS 3 (ps ++ (w.drop i).map fun c => [chN c]),g) w.length
  | 0,i,g,ps,h1,h2 => by omega
  | n + 1,i,g,ps,h1,h2 => by
    have hl : (wG w).length = w.length := by simp [wG]
    unfold catL
    by_cases hi : i < w.length
    · have hc : w[i]? = some (w[i]'hi) := List.getElem?_eq_getElem hi
      rw [if_pos ⟨by omega,wG_is h _ (by omega), .inr rfl⟩,rep_word h hc]
      simp only
      rw [cat_word h n (i + 1) g _ (by omega) (by omega),List.append_assoc,List.drop_eq_getElem_cons hi]; rfl
    · rw [if_neg (fun hh => hi (by omega)),List.drop_eq_nil_of_le (by omega),List.map_nil,List.append_nil]
      have : i = w.length := by omega
      rw [this]
theorem altL_stop {A : PF} {gs : List (Nat × Nat)} {m i : Nat} (h : isS gs i 124 = false) (n g : Nat) (ps : List (List Nod)) : altL A gs m n i g ps = .ok (joinS 4 ps,g) i := by
  cases n with
  | zero => rfl
  | succ n => unfold altL; rw [if_neg (by rw [h]; simp)]
def wN (w : List UInt8) : List Nod := joinS 3 (w.map fun c => [chN c])
theorem parse_word {w : List UInt8} (h : Lts w) (hl : w.length <= 10) : parseX w = (wN w,0,0) := by
  have hal : allS w = wG w := by have := wG_all h []; rwa [List.append_nil,allS_nil,List.append_nil] at this
  have hgl : (wG w).length = w.length := by simp [wG]
  have ha : altF (wG w) 20 0 0 = .ok (wN w,0) w.length := by
    show altB (altF (wG w) 19) (wG w) 20 0 0 = _
    unfold altB catF
    rw [cat_word h _ 0 0 [] (by omega) (by omega)]
    simp only [List.nil_append,List.drop_zero]
    rw [altL_stop (wG_is h _ (by omega))]
    rfl
  unfold parseX
  rw [if_neg (by omega),hal,ha]
  unfold parseR
  simp only [hgl,Nat.lt_irrefl,if_false]
def wK : List UInt8 -> Trs
  | [] => .nil
  | c :: w => .cons (.mk (chN c) .nil) (wK w)
theorem wK_len : ∀ w,(wK w).len = w.length
  | [] => rfl
  | c :: w => by simp [wK,Trs.len,wK_len w]
theorem wK_sz : ∀ w,(wK w).sz = w.length
  | [] => rfl
  | c :: w => by
    have : (Tr.mk (chN c) .nil).sz = 1 := rfl
    simp only [wK,Trs.sz,wK_sz w,this,List.length_cons]; omega
theorem wK_ok : ∀ w,(wK w).ok
  | [] => trivial
  | c :: w => by
    simp only [wK,Trs.ok,Tr.ok]
    exact ⟨⟨⟨rfl, .inr (.inl ⟨rfl,rfl⟩)⟩,trivial⟩,wK_ok w⟩
theorem wK_flat : ∀ w,(wK w).flat = w.map chN
  | [] => rfl
  | c :: w => by simp [wK,Trs.flat,Tr.flat,wK_flat w]
def cI (c : UInt8) : PIns := mkI 1 0 0 [(((c.toNat : Nat) : Int),((c.toNat : Nat) : Int))]
theorem wK_code : ∀ w b,catT (wK w) b = w.map cI
  | [],b => rfl
  | c :: w,b => by
    have : codeT (.mk (chN c) .nil) b = [cI c] := by simp [codeT,chN,clsN,mkNd,cI]
    simp only [wK,catT,this,wK_code w,List.map_cons,List.singleton_append]
def wT : List UInt8 -> Tr
  | [] => .mk (mkNd 1 0 0 false 0 0 []) .nil
  | [c] => .mk (chN c) .nil
  | c :: d :: w => .mk (mkNd 3 0 0 false 0 ((w.length + 2 : Nat) : Int) []) (wK (c :: d :: w))
theorem flat_sing (w : List UInt8) : (w.map fun c => [chN c]).flatten = w.map chN := by
  induction w with
  | nil => rfl
  | cons c w ih => simp [ih]
theorem wT_flat : ∀ w,(wT w).flat = wN w
  | [] => rfl
  | [c] => rfl
  | c :: d :: w => by
    show mkNd 3 0 0 false 0 _ [] :: (wK (c :: d :: w)).flat = mkNd 3 0 0 false 0 _ [] :: _
    rw [wK_flat, <- flat_sing]
    simp
    congr 1
theorem wT_ok : ∀ w,(wT w).ok
  | [] => by simp only [wT,Tr.ok]; exact ⟨⟨rfl, .inl ⟨.inl rfl,rfl⟩⟩,trivial⟩
  | [c] => by simp only [wT,Tr.ok]; exact ⟨⟨rfl, .inr (.inl ⟨rfl,rfl⟩)⟩,trivial⟩
  | c :: d :: w => by
    simp only [wT,Tr.ok]
    refine ⟨⟨?_, .inr (.inr (.inl ⟨.inl rfl,?_⟩))⟩,wK_ok _⟩
    · rw [wK_len]; rfl
    · rw [wK_len]; simp
theorem wT_code : ∀ w b,codeT (wT w) b = w.map cI
  | [],b => by simp [wT,codeT,mkNd]
  | [c],b => by simp [wT,codeT,chN,clsN,mkNd,cI]
  | c :: d :: w,b => by
    have := wK_code (c :: d :: w) b
    rw [<- this]
    simp [wT,codeT,mkNd]
theorem wT_sz : ∀ w,(wT w).sz = w.length
  | [] => rfl
  | [c] => rfl
  | c :: d :: w => by
    have := wK_sz (c :: d :: w)
    rw [<- this]
    simp [wT,Tr.sz,nodSz,mkNd]
theorem ch_shape {c : UInt8} (h : 97 <= c.toNat /\ c.toNat <= 122) (g : Nat) : shapeN (chN c) (g : Nat) = (0,true) := by
  have hr : rightS [(((c.toNat : Nat) : Int),((c.toNat : Nat) : Int))] = true := by
    rw [rightS_of (oneR_is (r := ((c.toNat : Nat) : Int)) (by omega) (by omega))]
    exact decide_eq_true rfl
  simp [shapeN,chN,clsN,mkNd,plainN,hr]
theorem kids_word {l : List Nod} {f : Nat} : ∀ (w : List UInt8) (a : Nat),Lts w -> (∀ k c,w[k]? = some c -> l[a + k]? = some (chN c)) -> kidsS (oneW l (f + 1)) w.length a 0 = some (a + w.length,0)
  | [],a,_,_ => rfl
  | c :: w,a,h,hl => by
    have h0 := hl 0 c rfl
    have hs := ch_shape (h c (List.mem_cons_self ..)) 0
    have ho : oneW l (f + 1) a 0 = some (a + 1,0) := by
      unfold oneW
      rw [Nat.add_zero] at h0
      rw [h0]
      simp only [hs,if_true]
      rfl
    simp only [List.length_cons,kidsS,ho]
    rw [kids_word w (a + 1) (fun x hx => h x (List.mem_cons_of_mem _ hx)) fun k c' hk => by rw [show a + 1 + k = a + (k + 1) by omega]; exact hl (k + 1) c' (by simpa using hk)]
    congr 2; omega
theorem right_word {w : List UInt8} (h : Lts w) (hl : w.length <= 10) : rightN (wN w) = true := by
  have key : ∀ r,oneW (wN w) 241 0 0 = some r -> r.1 = (wN w).length -> 1 <= (wN w).length /\ (wN w).length <= 480 -> rightN (wN w) = true := by
    intro r h1 h2 h3
    unfold rightN
    rw [h1]
    simp only [decide_eq_true h3.1,decide_eq_true h3.2,decide_eq_true h2,Bool.and_self]
  match w,h,hl with
  | [],_,_ => exact key (1,0) rfl rfl ⟨Nat.le_refl _,by decide⟩
  | [c],h,_ =>
    refine key (1,0) ?_ rfl ⟨Nat.le_refl _,by show 1 <= 480; omega⟩
    have hs := ch_shape (h c (List.mem_cons_self ..)) 0
    unfold oneW
    simp only [wN,List.map_cons,List.map_nil,joinS,List.getElem?_cons_zero,hs,if_true]
    rfl
  | c :: d :: w,h,hl =>
    have e : wN (c :: d :: w) = mkNd 3 0 0 false 0 ((w.length + 2 : Nat) : Int) [] :: (c :: d :: w).map chN := by
      rw [<- wT_flat]; show _ :: (wK (c :: d :: w)).flat = _; rw [wK_flat]
    have hlen : (wN (c :: d :: w)).length = w.length + 3 := by rw [e]; simp
    refine key (w.length + 3,0) ?_ hlen.symm ⟨by omega,by simp only [List.length_cons] at hl; omega⟩
    have hk := kids_word (l := wN (c :: d :: w)) (f := 239) (c :: d :: w) 1 h fun k c' hk => by
      rw [e,Nat.add_comm 1 k,List.getElem?_cons_succ,List.getElem?_map,hk]; rfl
    have hsh : shapeN (mkNd 3 0 0 false 0 ((w.length + 2 : Nat) : Int) []) ((0 : Nat) : Int) = (((w.length + 2 : Nat) : Int),true) := by
      simp [shapeN,mkNd,plainN]
      omega
    unfold oneW
    rw [show (wN (c :: d :: w))[0]? = some (mkNd 3 0 0 false 0 ((w.length + 2 : Nat) : Int) []) by rw [e]; rfl]
    simp only [hsh,if_true]
    rw [if_neg (by simp [mkNd])]
    show kidsS (oneW (wN (c :: d :: w)) 240) (w.length + 2) 1 0 = _
    simp only [List.length_cons] at hk
    rw [hk]
    congr 2; omega
def wC (w : List UInt8) : List PIns := mkI 4 0 0 [] :: (w.map cI ++ [mkI 4 1 0 [],mkI 7 0 0 []])
theorem comp_word {w : List UInt8} (h : Lts w) (hl : w.length <= 10) : compileS [wN w] = ⟨wC w, [0],0,0⟩ := by
  have hr := right_word h hl
  obtain ⟨t1,t2⟩ := tree_is hr
  have ht : treeN (wN w) = wT w := (Tr.uniq _ _ [] [] t1 (wT_ok w) (by rw [t2,wT_flat])).1
  rw [compile_one,if_neg (by rw [hr]; simp),ht,wT_sz,if_neg (by omega)]
  unfold ruleC
  rw [wT_code]
  rfl
end Go.Proofs.Ytapfahlbkhgdpaa
namespace Go.Proofs.Ytapfahlbkhgdpaa
open Go.V Go
def Mt (w : List UInt8) (gs : List (Nat × Nat)) (j i : Nat) : Prop := ∃ q c,gs[j + i]? = some q /\ w[i]? = some c /\ q.1 = c.toNat
def MtA (w : List UInt8) (gs : List (Nat × Nat)) (j : Nat) : Prop := ∀ i,i < w.length -> Mt w gs j i
def oW (n a : Nat) : Nat := if a = 0 then 0 else if a <= n + 1 then a - 1 else n
def InvW (n j a : Nat) (s : Sn) : Prop := ∀ x b,s x b = true -> b < j + oW n x \/ (b = j + oW n x /\ x < a)
theorem InvW.no {n j a : Nat} {s : Sn} (h : InvW n j a s) {b : Nat} (hb : b = j + oW n a) : s a b = false := by
  cases hs : s a b with
  | false => rfl
  | true => rcases h a b hs with h | h <;> omega
theorem InvW.upd {n j a : Nat} {s : Sn} (h : InvW n j a s) {t : Tr3} (ht : t.pc = a) (hb : t.at_ = j + oW n a) : InvW n j (a + 1) (updS s t) := by
  intro x b hx
  rcases upd_is hx with ⟨rfl,rfl⟩ | hx
  · right; rw [ht]; exact ⟨hb,by omega⟩
  · rcases h x b hx with h | ⟨h1,h2⟩
    · exact .inl h
    · exact .inr ⟨h1,by omega⟩
theorem InvW.next {n j a : Nat} {s : Sn} (h : InvW n j a s) : InvW n (j + 1) 0 s := by
  intro x b hx
  left
  rcases h x b hx with h | ⟨h1,h2⟩ <;> omega
section
variable {w : List UInt8} {gs : List (Nat × Nat)} {pl : List Int}
theorem wC_get {k : Nat} {c : UInt8} (h : w[k]? = some c) : (wC w)[1 + k]? = some (cI c) := by
  have hk := lt_get h
  unfold wC
  rw [Nat.add_comm,List.getElem?_cons_succ,List.getElem?_append_left (by simpa using hk),List.getElem?_map,h]; rfl
theorem wC_end : (wC w)[1 + w.length]? = some (mkI 4 1 0 []) /\ (wC w)[2 + w.length]? = some (mkI 7 0 0 []) := by
  unfold wC
  constructor
  · rw [Nat.add_comm,List.getElem?_cons_succ,List.getElem?_append_right (by simp)]; simp
  · rw [show 2 + w.length = (w.length + 1) + 1 by omega,List.getElem?_cons_succ,List.getElem?_append_right (by simp)]; simp
theorem step_hit {k j : Nat} {c : Cps} (h : Mt w gs j k) : stepS (wC w) gs pl ⟨1 + k,j + k,c⟩ = .more [⟨1 + (k + 1),j + (k + 1),c⟩] := by
  obtain ⟨q,x,h1,h2,h3⟩ := h
  unfold stepS
  rw [show (wC w)[(⟨1 + k,j + k,c⟩ : Tr3).pc]? = some (cI x) from wC_get h2]
  have hg : gs.getD (j + k) (0,0) = q := by rw [List.getD_eq_getElem?_getD,h1]; rfl
  have hl := lt_get h1
  simp only [cI,mkI,hasS]
  rw [if_neg (by decide),if_neg (by decide),if_neg (by decide),if_neg (by decide),if_neg (by decide),if_neg (by decide),if_pos ⟨hl,by rw [hg]; simp; omega⟩]
  rfl
theorem step_miss {k j : Nat} {c : Cps} (hk : k < w.length) (h : ¬ Mt w gs j k) : stepS (wC w) gs pl ⟨1 + k,j + k,c⟩ = .more [] := by
  have h2 : w[k]? = some (w[k]'hk) := List.getElem?_eq_getElem hk
  generalize w[k]'hk = x at h2
  unfold stepS
  rw [show (wC w)[(⟨1 + k,j + k,c⟩ : Tr3).pc]? = some (cI x) from wC_get h2]
  simp only [cI,mkI,hasS]
  rw [if_neg (by decide),if_neg (by decide),if_neg (by decide),if_neg (by decide),if_neg (by decide),if_neg (by decide),if_neg]
  rintro ⟨hl,hh⟩
  have h1 : gs[j + k]? = some (gs[j + k]'hl) := List.getElem?_eq_getElem hl
  rw [List.getD_eq_getElem?_getD,h1] at hh
  refine h ⟨_,x,h1,h2,?_⟩
  simp at hh
  omega
theorem run_hit : ∀ (d k j : Nat) (s : Sn) (c : Cps) (rest : List Tr3),k + d = w.length -> InvW w.length j (1 + k) s -> (∀ i,k <= i -> i < w.length -> Mt w gs j i) -> ∃ s',Run (stepS (wC w) gs pl) s (⟨1 + k,j + k,c⟩ :: rest) (some (setC c 1 (pl.getD (j + w.length) 0))) s'
  | 0,k,j,s,c,rest,hd,hI,_ => by
    have hk : k = w.length := by omega
    subst hk
    obtain ⟨e1,e2⟩ := wC_end (w := w)
    have o1 : oW w.length (1 + w.length) = w.length := by unfold oW; rw [if_neg (by omega),if_pos (by omega)]; omega
    have o2 : oW w.length (1 + w.length + 1) = w.length := by unfold oW; rw [if_neg (by omega),if_neg (by omega)]
    have hI2 := hI.upd (t := ⟨1 + w.length,j + w.length,c⟩) rfl (by rw [o1])
    refine ⟨_, .more (l := [⟨1 + w.length + 1,j + w.length,setC c 1 (pl.getD (j + w.length) 0)⟩]) (hI.no (by rw [o1])) ?_ (.found (hI2.no (by rw [o2])) ?_)⟩
    · unfold stepS
      rw [show (wC w)[(⟨1 + w.length,j + w.length,c⟩ : Tr3).pc]? = _ from e1]
      rfl
    · unfold stepS
      rw [show (wC w)[(⟨1 + w.length + 1,j + w.length,setC c 1 (pl.getD (j + w.length) 0)⟩ : Tr3).pc]? = some (mkI 7 0 0 []) by show (wC w)[1 + w.length + 1]? = _; rw [show 1 + w.length + 1 = 2 + w.length by omega]; exact e2]
      rfl
  | d + 1,k,j,s,c,rest,hd,hI,hM => by
    have o1 : oW w.length (1 + k) = k := by unfold oW; rw [if_neg (by omega),if_pos (by omega)]; omega
    obtain ⟨s',hr⟩ := run_hit d (k + 1) j _ c rest (by omega) (hI.upd (t := ⟨1 + k,j + k,c⟩) rfl (by rw [o1])) fun i h1 h2 => hM i (by omega) h2
    exact ⟨s', .more (hI.no (by rw [o1])) (step_hit (hM k (Nat.le_refl _) (by omega))) hr⟩
theorem run_miss {rest : List Tr3} : ∀ (d k j : Nat) (s : Sn) (c : Cps),k + d = w.length -> InvW w.length j (1 + k) s -> (∃ i,k <= i /\ i < w.length /\ ¬ Mt w gs j i) -> ∃ s2,InvW w.length (j + 1) 0 s2 /\ ∀ r s',Run (stepS (wC w) gs pl) s2 rest r s' -> Run (stepS (wC w) gs pl) s (⟨1 + k,j + k,c⟩ :: rest) r s'
  | 0,k,j,s,c,hd,hI,hM => by obtain ⟨i,h1,h2,_⟩ := hM; omega
  | d + 1,k,j,s,c,hd,hI,hM => by
    have o1 : oW w.length (1 + k) = k := by unfold oW; rw [if_neg (by omega),if_pos (by omega)]; omega
    have hI2 := hI.upd (t := ⟨1 + k,j + k,c⟩) rfl (by rw [o1])
    by_cases hm : Mt w gs j k
    · obtain ⟨i,h1,h2,h3⟩ := hM
      have hik : k ≠ i := fun e => h3 (e ▸ hm)
      obtain ⟨s2,h4,h5⟩ := run_miss d (k + 1) j _ c (by omega) hI2 ⟨i,by omega,h2,h3⟩
      exact ⟨s2,h4,fun r s' hr => .more (hI.no (by rw [o1])) (step_hit hm) (h5 r s' hr)⟩
    · exact ⟨_,hI2.next,fun r s' hr => .more (hI.no (by rw [o1])) (step_miss (by omega) hm) hr⟩
def beg0 (i m : Nat) : List Tr3 := (List.range' i m).map fun j => ⟨0,j,noCaps⟩
def FirstW (w : List UInt8) (gs : List (Nat × Nat)) (i j : Nat) : Prop := i <= j /\ j <= gs.length /\ MtA w gs j /\ ∀ j',i <= j' -> j' < j -> ¬ MtA w gs j'
theorem run_word : ∀ (m i : Nat) (s : Sn),InvW w.length i 0 s -> i + m = gs.length + 1 -> ∃ r s',Run (stepS (wC w) gs pl) s (beg0 i m) r s' /\ ((∃ j f,FirstW w gs i j /\ r = some f /\ f 0 = pl.getD j 0 /\ f 1 = pl.getD (j + w.length) 0) \/ (r = none /\ ∀ j,i <= j -> j <= gs.length -> ¬ MtA w gs j))
  | 0,i,s,hI,hm => ⟨none,s, .nil, .inr ⟨rfl,fun j h1 h2 => by omega⟩⟩
  | m + 1,i,s,hI,hm => by
    have hs0 : s 0 i = false := hI.no rfl
    have hI1 : InvW w.length i (1 + 0) (updS s ⟨0,i,noCaps⟩) := hI.upd (t := ⟨0,i,noCaps⟩) rfl rfl
    have hst : stepS (wC w) gs pl ⟨0,i,noCaps⟩ = .more [⟨1 + 0,i + 0,setC noCaps 0 (pl.getD i 0)⟩] := rfl
    by_cases hA : MtA w gs i
    · obtain ⟨s',hr⟩ := run_hit (gs := gs) (pl := pl) w.length 0 i _ (setC noCaps 0 (pl.getD i 0)) (beg0 (i + 1) m) (by omega) hI1 fun k _ h => hA k h
      refine ⟨_,s', .more hs0 hst hr, .inl ⟨i,_,⟨Nat.le_refl _,by omega,hA,fun j' h1 h2 => by omega⟩,rfl,rfl,rfl⟩⟩
    · have hex : ∃ k,0 <= k /\ k < w.length /\ ¬ Mt w gs i k := by
        refine Classical.byContradiction fun hn => hA fun k hk => Classical.byContradiction fun hk2 => hn ⟨k,Nat.zero_le _,hk,hk2⟩
      obtain ⟨s2,h1,h2⟩ := run_miss (gs := gs) (pl := pl) (rest := beg0 (i + 1) m) w.length 0 i _ (setC noCaps 0 (pl.getD i 0)) (by omega) hI1 hex
      obtain ⟨r,s',hr,hq⟩ := run_word m (i + 1) s2 h1 (by omega)
      refine ⟨r,s', .more hs0 hst (h2 r s' hr),?_⟩
      rcases hq with ⟨j,f,⟨h1,h2,h3,h4⟩,h5⟩ | ⟨h1,h2⟩
      · refine .inl ⟨j,f,⟨by omega,h2,h3,fun j' a b => ?_⟩,h5⟩
        by_cases e : j' = i
        · subst e; exact hA
        · exact h4 j' (by omega) b
      · refine .inr ⟨h1,fun j a b => ?_⟩
        by_cases e : j = i
        · subst e; exact hA
        · exact h2 j (by omega) b
end
end Go.Proofs.Ytapfahlbkhgdpaa
namespace Go.Proofs.Ytapfahlbkhgdpaa
open Go.V Go
theorem scan_cont : ∀ (left n r lo hi : Nat) (xs : List UInt8),128 <= lo -> (scanS left n r lo hi xs).2.1 ≠ 0 -> (scanS left n r lo hi xs).2.1 = n /\ r * 64 ^ left <= (scanS left n r lo hi xs).1 /\ ∀ p x,p < left -> xs[p]? = some x -> 128 <= x.toNat
  | 0,n,r,lo,hi,xs,_,_ => by
    have e : scanS 0 n r lo hi xs = (r,n,false) := by cases xs <;> rfl
    rw [e]
    exact ⟨rfl,by simp,fun p x h => by omega⟩
  | left + 1,n,r,lo,hi, [],_,h => absurd rfl h
  | left + 1,n,r,lo,hi,x :: xs,hlo,h => by
    have e : scanS (left + 1) n r lo hi (x :: xs) = if x.toNat < lo \/ hi < x.toNat then (0,0,false) else scanS left n (r * 64 + x.toNat % 64) 128 191 xs := rfl
    rw [e] at h ⊢
    by_cases hc : x.toNat < lo \/ hi < x.toNat
    · rw [if_pos hc] at h; exact absurd rfl h
    · rw [if_neg hc] at h ⊢
      obtain ⟨h1,h2,h3⟩ := scan_cont left n _ 128 191 xs (Nat.le_refl _) h
      refine ⟨h1,Nat.le_trans ?_ h2,fun p y hp hy => ?_⟩
      · rw [Nat.pow_succ,Nat.mul_comm (64 ^ left), <- Nat.mul_assoc]
        exact Nat.mul_le_mul_right _ (by omega)
      · cases p with
        | zero => simp only [List.getElem?_cons_zero,Option.some.injEq] at hy; subst hy; omega
        | succ p => exact h3 p y (by omega) (by simpa using hy)
theorem first_is (c : UInt8) (xs : List UInt8) : firstS (c :: xs) = if (moreS c.toNat).1 < 0 then (0,0,false) else scanS (moreS c.toNat).1.toNat ((moreS c.toNat).1.toNat + 1) (if (moreS c.toNat).1 > 0 then c.toNat % (64 / 2 ^ (moreS c.toNat).1.toNat) else c.toNat) (moreS c.toNat).2.1 (moreS c.toNat).2.2 xs := rfl
theorem first_tail {c : UInt8} {xs : List UInt8} (h : (firstS (c :: xs)).2.1 ≠ 0) : ((firstS (c :: xs)).1 < 128 -> c.toNat < 128) /\ ∀ p x,p + 1 < (firstS (c :: xs)).2.1 -> xs[p]? = some x -> 128 <= x.toNat := by
  have hc := c.toNat_lt
  by_cases h1 : c.toNat < 128
  · refine ⟨fun _ => h1,fun p x hp => ?_⟩
    have := one_ascii h1 xs
    unfold oneS at this
    rw [if_neg h] at this
    have := (Prod.mk.inj this).2
    omega
  have two : ∀ {d : Nat} {l hi : Nat} {r : Nat},128 <= l -> firstS (c :: xs) = scanS d (d + 1) r l hi xs -> 128 <= r * 64 ^ d -> ((firstS (c :: xs)).1 < 128 -> c.toNat < 128) /\ ∀ p x,p + 1 < (firstS (c :: xs)).2.1 -> xs[p]? = some x -> 128 <= x.toNat := by
    intro d l hi r hl he hr
    rw [he] at h ⊢
    obtain ⟨h2,h3,h4⟩ := scan_cont d _ r l hi xs hl h
    exact ⟨fun h5 => by omega,fun p x hp hx => h4 p x (by omega) hx⟩
  have three : ∀ {d : Nat} {l hi : Nat},144 <= l -> l <= 160 -> hi = 191 -> firstS (c :: xs) = scanS (d + 2) (d + 3) 0 l hi xs -> ((firstS (c :: xs)).1 < 128 -> c.toNat < 128) /\ ∀ p x,p + 1 < (firstS (c :: xs)).2.1 -> xs[p]? = some x -> 128 <= x.toNat := by
    intro d l hi hl hl2 hh he
    rw [he] at h ⊢
    cases xs with
    | nil => exact absurd rfl h
    | cons x xs =>
      have e : scanS (d + 2) (d + 3) 0 l hi (x :: xs) = if x.toNat < l \/ hi < x.toNat then (0,0,false) else scanS (d + 1) (d + 3) (0 * 64 + x.toNat % 64) 128 191 xs := rfl
      rw [e] at h ⊢
      by_cases hx : x.toNat < l \/ hi < x.toNat
      · rw [if_pos hx] at h; exact absurd rfl h
      · rw [if_neg hx] at h ⊢
        obtain ⟨h2,h3,h4⟩ := scan_cont (d + 1) _ _ 128 191 xs (Nat.le_refl _) h
        refine ⟨fun h5 => ?_,fun p y hp hy => ?_⟩
        · have h6 : 1 <= 64 ^ d := Nat.le_trans Nat.one_le_two_pow (Nat.pow_le_pow_left (show 2 <= 64 by decide) d)
          have h7 : (0 * 64 + x.toNat % 64) * (64 ^ d * 64) >= 16 * (1 * 64) := Nat.mul_le_mul (by omega) (Nat.mul_le_mul h6 (Nat.le_refl _))
          rw [Nat.pow_succ] at h3
          omega
        · cases p with
          | zero => simp only [List.getElem?_cons_zero,Option.some.injEq] at hy; subst hy; omega
          | succ p => exact h4 p y (by omega) (by simpa using hy)
  have hf := first_is c xs
  unfold moreS at hf
  rw [if_neg h1] at hf
  by_cases h2 : c.toNat < 194
  · rw [if_pos h2] at hf; rw [hf] at h; exact absurd rfl h
  rw [if_neg h2] at hf
  by_cases h3 : c.toNat < 224
  · rw [if_pos h3] at hf
    exact two (d := 1) (l := 128) (hi := 191) (r := c.toNat % 32) (Nat.le_refl _) hf (by omega)
  rw [if_neg h3] at hf
  by_cases h4 : c.toNat = 224
  · rw [if_pos h4,h4] at hf
    exact three (d := 0) (l := 160) (hi := 191) (by omega) (by omega) rfl hf
  rw [if_neg h4] at hf
  by_cases h5 : c.toNat = 237
  · rw [if_pos h5] at hf
    exact two (d := 2) (l := 128) (hi := 159) (r := c.toNat % 16) (Nat.le_refl _) hf (by omega)
  rw [if_neg h5] at hf
  by_cases h6 : c.toNat < 240
  · rw [if_pos h6] at hf
    exact two (d := 2) (l := 128) (hi := 191) (r := c.toNat % 16) (Nat.le_refl _) hf (by omega)
  rw [if_neg h6] at hf
  by_cases h7 : c.toNat = 240
  · rw [if_pos h7,h7] at hf
    exact three (d := 1) (l := 144) (hi := 191) (by omega) (by omega) rfl hf
  rw [if_neg h7] at hf
  by_cases h8 : c.toNat < 244
  · rw [if_pos h8] at hf
    exact two (d := 3) (l := 128) (hi := 191) (r := c.toNat % 8) (Nat.le_refl _) hf (by omega)
  rw [if_neg h8] at hf
  by_cases h9 : c.toNat = 244
  · rw [if_pos h9] at hf
    exact two (d := 3) (l := 128) (hi := 143) (r := c.toNat % 8) (Nat.le_refl _) hf (by omega)
  · rw [if_neg h9] at hf; rw [hf] at h; exact absurd rfl h
theorem one_low {c : UInt8} {xs : List UInt8} (h : (oneS (c :: xs)).1 < 128) : oneS (c :: xs) = (c.toNat,1) := by
  refine one_ascii ?_ xs
  unfold oneS at h
  by_cases h0 : (firstS (c :: xs)).2.1 = 0
  · rw [if_pos h0] at h; simp only at h; omega
  · rw [if_neg h0] at h; exact (first_tail h0).1 h
theorem one_tail {c : UInt8} {xs : List UInt8} {p : Nat} {x : UInt8} (hp : p + 1 < (oneS (c :: xs)).2) (hx : xs[p]? = some x) : 128 <= x.toNat := by
  unfold oneS at hp
  by_cases h0 : (firstS (c :: xs)).2.1 = 0
  · rw [if_pos h0] at hp; simp only at hp; omega
  · rw [if_neg h0] at hp; exact (first_tail h0).2 p x hp hx
def pla (b : List UInt8) (j : Nat) : Nat := (((allS b).take j).map (·.2)).sum
theorem pla_succ {b : List UInt8} (h : b ≠ []) (j : Nat) : pla b (j + 1) = (oneS b).2 + pla (b.drop (oneS b).2) j := by
  unfold pla
  rw [allS_cons h]
  simp
theorem all_drop : ∀ (j : Nat) (b : List UInt8),j <= (allS b).length -> (allS b).drop j = allS (b.drop (pla b j)) /\ pla b j <= b.length
  | 0,b,_ => by simp [pla]
  | j + 1, [],h => by rw [allS_nil] at h; simp at h
  | j + 1,c :: xs,h => by
    have hne : c :: xs ≠ [] := by simp
    have hle := oneS_le (b := c :: xs) hne
    rw [pla_succ hne]
    rw [allS_cons hne] at h ⊢
    obtain ⟨h1,h2⟩ := all_drop j ((c :: xs).drop (oneS (c :: xs)).2) (by simpa using h)
    rw [List.drop_succ_cons,h1,List.drop_drop]
    refine ⟨rfl,?_⟩
    rw [List.length_drop] at h2
    omega
theorem MtA.cut {w : List UInt8} {gs : List (Nat × Nat)} {j : Nat} : MtA w gs j ↔ MtA w (gs.drop j) 0 := by
  unfold MtA Mt
  simp only [List.getElem?_drop,Nat.zero_add]
theorem MtA.tail {c : UInt8} {w : List UInt8} {q : Nat × Nat} {gs : List (Nat × Nat)} (h : MtA (c :: w) (q :: gs) 0) : q.1 = c.toNat /\ MtA w gs 0 := by
  refine ⟨?_,fun i hi => ?_⟩
  · obtain ⟨q',c',h1,h2,h3⟩ := h 0 (by simp)
    cases h1; cases h2; exact h3
  · obtain ⟨q',c',h1,h2,h3⟩ := h (i + 1) (by simpa using hi)
    exact ⟨q',c',by simpa using h1,by simpa using h2,h3⟩
theorem mt_front : ∀ (w b : List UInt8),Lts w -> MtA w (allS b) 0 -> w <+: b /\ pla b w.length = w.length /\ w.length <= (allS b).length
  | [],b,_,_ => ⟨List.nil_prefix,by simp [pla],by simp⟩
  | c :: w, [],hw,h => by
    obtain ⟨q,_,h1,_⟩ := h 0 (by simp)
    rw [allS_nil] at h1; simp at h1
  | c :: w,d :: xs,hw,h => by
    have hne : d :: xs ≠ [] := by simp
    have hc := hw c (List.mem_cons_self ..)
    rw [allS_cons hne] at h
    obtain ⟨h1,h2⟩ := h.tail
    have ho := one_low (c := d) (xs := xs) (by omega)
    rw [ho] at h1 h2
    have hcd : d = c := UInt8.toNat_inj.1 h1
    subst hcd
    obtain ⟨h3,h4,h5⟩ := mt_front w xs (fun x hx => hw x (List.mem_cons_of_mem _ hx)) h2
    refine ⟨(List.prefix_cons_inj d).2 h3,?_,?_⟩
    · show pla (d :: xs) (w.length + 1) = w.length + 1
      rw [pla_succ hne,ho]
      show 1 + pla xs w.length = _
      omega
    · rw [allS_cons hne,ho]; simpa using h5
theorem front_mt {w b : List UInt8} (hw : Lts w) (h : w <+: b) : MtA w (allS b) 0 := by
  obtain ⟨y,rfl⟩ := h
  rw [wG_all hw]
  intro i hi
  have h2 : w[i]? = some (w[i]'hi) := List.getElem?_eq_getElem hi
  refine ⟨((w[i]'hi).toNat,1),_,?_,h2,rfl⟩
  rw [Nat.zero_add,List.getElem?_append_left (by simpa [wG] using hi),wG_get h2]
theorem occ_mt {c : UInt8} {w : List UInt8} (hw : Lts (c :: w)) : ∀ (n : Nat) (b : List UInt8) (p : Nat),b.length <= n -> (c :: w) <+: b.drop p -> ∃ j,j <= (allS b).length /\ pla b j = p /\ MtA (c :: w) (allS b) j
  | n,b,0,_,h => ⟨0,Nat.zero_le _,by simp [pla],front_mt hw h⟩
  | n, [],p + 1,_,h => by simp at h
  | 0,d :: xs,p + 1,hl,h => by simp at hl
  | n + 1,d :: xs,p + 1,hl,h => by
    have hne : d :: xs ≠ [] := by simp
    have hpos := oneS_pos (d :: xs)
    have hc := hw c (List.mem_cons_self ..)
    have hx : xs[p]? = some c := by
      obtain ⟨y,h⟩ := h
      rw [List.drop_succ_cons] at h
      have := congrArg (fun l => l[0]?) h
      simp only [List.cons_append,List.getElem?_cons_zero,List.getElem?_drop,Nat.add_zero] at this
      exact this.symm
    by_cases hp : p + 1 < (oneS (d :: xs)).2
    · have := one_tail hp hx; omega
    · obtain ⟨j,h1,h2,h3⟩ := occ_mt hw n ((d :: xs).drop (oneS (d :: xs)).2) (p + 1 - (oneS (d :: xs)).2) (by rw [List.length_drop]; simp only [List.length_cons] at hl ⊢; omega) (by rw [List.drop_drop,show (oneS (d :: xs)).2 + (p + 1 - (oneS (d :: xs)).2) = p + 1 by omega]; exact h)
      refine ⟨j + 1,by rw [allS_cons hne]; simpa using h1,by rw [pla_succ hne,h2]; omega,?_⟩
      rw [allS_cons hne]
      rw [MtA.cut] at h3 ⊢
      simpa using h3
theorem pla_mono (b : List UInt8) {i j : Nat} (h : i <= j) : pla b i <= pla b j := by
  unfold pla
  rw [List.map_take,List.map_take]
  exact sum_take_le _ i j h
theorem word_find {w b : List UInt8} (hw : Lts w) (hR : RightQ (pgV (wC w) [0])) : (progFind (pgV (wC w) [0]) 0 b = none /\ (w ≠ [] /\ Lib.index b w = -1)) \/ ∃ f a : Nat -> Int,progFind (pgV (wC w) [0]) 0 b = some f /\ 0 <= a 0 /\ f 0 = a 0 /\ f 1 = a 0 + (w.length : Nat) /\ (w = [] /\ a 0 = 0 \/ w ≠ [] /\ a 0 = Lib.index b w) := by
  obtain ⟨s1,h1⟩ := find_run (p := pgV (wC w) [0]) hR (r := 0) (start := 0) rfl b
  obtain ⟨r,s2,h2,hq⟩ := run_word (w := w) (gs := allS b) (pl := plS 0 (allS b)) ((allS b).length + 1) 0 (fun _ _ => false) (fun x b h => by cases h) (by omega)
  have he : progFind (pgV (wC w) [0]) 0 b = r := (h1.one h2).1
  rw [he]
  rcases hq with ⟨j,f,⟨_,j2,j3,j4⟩,rfl,f0,f1⟩ | ⟨rfl,hn⟩
  · right
    rw [plS_getD _ _ j2] at f0
    obtain ⟨d1,d2⟩ := all_drop j b j2
    have hm := MtA.cut.1 j3
    rw [d1] at hm
    obtain ⟨m1,m2,m3⟩ := mt_front w _ hw hm
    rw [<- d1,List.length_drop] at m3
    have hsum : pla b (j + w.length) = pla b j + w.length := by
      have h : pla b (j + w.length) = pla b j + pla (b.drop (pla b j)) w.length := by
        show (((allS b).take (j + w.length)).map (·.2)).sum = (((allS b).take j).map (·.2)).sum + _
        rw [List.take_add,List.map_append,List.sum_append,d1]; rfl
      rw [h,m2]
    rw [plS_getD _ _ (show j + w.length <= (allS b).length by omega)] at f1
    refine ⟨f,fun _ => f 0,rfl,by simp only [f0]; omega,rfl,?_,?_⟩
    · show f 1 = f 0 + _
      rw [f1,f0]
      show ((pla b (j + w.length) : Nat) : Int) = ((pla b j : Nat) : Int) + _
      rw [hsum]; omega
    · cases w with
      | nil =>
        left
        refine ⟨rfl,?_⟩
        have : j = 0 := by
          rcases Nat.eq_zero_or_pos j with h | h
          · exact h
          · exact absurd (fun i hi => absurd hi (Nat.not_lt_zero _)) (j4 0 (Nat.le_refl _) h)
        show f 0 = 0
        rw [f0,this]; simp
      | cons c w =>
        right
        refine ⟨by simp,?_⟩
        show f 0 = _
        rw [f0]
        refine (Lib.index_first d2 (List.isPrefixOf_iff_prefix.2 m1) fun p hp => ?_).symm
        cases ho : Lib.occAt b (c :: w) p with
        | false => rfl
        | true =>
          obtain ⟨j',k1,k2,k3⟩ := occ_mt hw b.length b p (Nat.le_refl _) (List.isPrefixOf_iff_prefix.1 ho)
          have hjj : j' < j := by
            rcases Nat.lt_or_ge j' j with h | h
            · exact h
            · have := pla_mono b h
              have hp' : p < pla b j := hp
              omega
          exact absurd k3 (j4 j' (Nat.zero_le _) hjj)
  · left
    cases w with
    | nil => exact absurd (fun i hi => absurd hi (Nat.not_lt_zero _)) (hn 0 (Nat.le_refl _) (Nat.zero_le _))
    | cons c w =>
      refine ⟨rfl,by simp,Lib.index_none fun p _ => ?_⟩
      cases ho : Lib.occAt b (c :: w) p with
      | false => rfl
      | true =>
        obtain ⟨j',k1,k2,k3⟩ := occ_mt hw b.length b p (Nat.le_refl _) (List.isPrefixOf_iff_prefix.1 ho)
        exact absurd k3 (hn j' (Nat.zero_le _) k1)
end Go.Proofs.Ytapfahlbkhgdpaa
