/- own -/
import Derived.Test.YtnleclohocdkaaaWGHr
import Derived.Test.YtnleclohocdkaaaWGQa
import Derived.Test.YtnleclohocdkaaaWGM3
set_option maxRecDepth 100000
set_option maxHeartbeats 4000000
set_option linter.unusedSimpArgs false
set_option linter.unusedVariables false
namespace Go.Proofs.Ytnleclohocdkaaa
open Go.V Go
def ixF_Pj (fr : Go.V.Fr) (k : Nat) : Go.V.D := Go.V.nth .junk fr.loc k
theorem cat_ev {m : Nat} (hA : ∀ m',m' + 1 = m -> AltSpec m') {N k : Nat} {S s0 : St} {H : List Ent} {gs : List (Nat × Nat)} {plD : D} {pls : List Int} {s : Prs} (hok : PrsOk gs pls) (he : s.e = 0) (hi : s.i <= gs.length) (hg : s.g <= 4) (ho : s.o + m = 20) (hH : Has N S s0 (.box k (.mem 0 false (prsC gs plD s)) :: .lst plD 1 (pls.map intC) :: H)) :
  ∃ d st',Ev pv 71 [.ptr k 0 0] s0 d st' /\ ∃ (s' : Prs),NodesQ gs s s' d /\ Has N S st' (.box k (.mem 0 false (prsC gs plD s')) :: .lst plD 1 (pls.map intC) :: H) := by
 have hgl := hok.gl;have hpl := hok.pl;refine Ev.mkE rfl fi71 rfl rfl rfl ?_;refine zE ?_;have hH0 := hH;have hH := hH.enterRw;have hS2 : (enterSt .rw s0).bs = s0.bs := rfl;generalize enterSt .rw s0 = S2 at *;have hgr : Arg N S2 2 (gotsD gs) (gs.map gotC) := Arg.pure (fun st => gots_rows st gs);refine zQ 8 ?_;have hH : Has N S2 S2 (.box k (.mem 0 false (prsC gs plD s)) :: .lst plD 1 (pls.map intC) :: .lst .nul 1 (([] : List (List Nod)).map partC) :: H) := Has_rot3 (hH.nulE 1);refine zQ 2 ?_;refine EvC.loop (fun mm fr st => ∃ (s1 : Prs) (pd : D) (parts : List (List Nod)),fr.clean = ⟨4, [.ptr k 0 0,ixF_Pj fr 1,ixF_Pj fr 2,pd], []⟩ /\ Has N S2 st (.box k (.mem 0 false (prsC gs plD s1)) :: .lst plD 1 (pls.map intC) :: .lst pd 1 (parts.map partC) :: H) /\ (s1.o = s.o) /\ (s1.g <= 4) /\ (s.i <= s1.i) /\ (s1.i <= gs.length) /\ (∀ l ∈ parts, ∀ n ∈ l,NdV n) /\ (sumL parts + parts.length <= 4 * (s1.i - s.i) + 2) /\ (s1.e = 0 -> sumL parts + parts.length <= 4 * (s1.i - s.i)) /\ (gs.length - s1.i + (if s1.e = 0 then 1 else 0) <= mm)) (gs.length + 1) ?_ ?_
 ·exact ⟨s, .nul, [],rfl,hH,rfl,hg,Nat.le_refl _,hi,fun l hl => (by cases hl),by simp [sumL],fun _ => by simp [sumL],by split <;> omega⟩
 rintro mm fr st ⟨s1,pd,parts,hfr,hH,h1,h2,h3,h4,h5,h6,h7,hmm⟩;rw [hfr];clear hfr;generalize ixF_Pj fr = ee;clear fr
 have hexit : ∀ st : St,Has N S2 st (.box k (.mem 0 false (prsC gs plD s1)) :: .lst plD 1 (pls.map intC) :: .lst pd 1 (parts.map partC) :: H) -> ∃ d,Ev pv 73 [.int .i64 3,pd] st d st /\ NodesQ gs s s1 d /\ ∃ l,d = nlD l := by
  intro st hH;obtain ⟨_,hev,l,rfl,j1,j2,j3⟩ := joined_ev 3 (hH.rows at2) h5 (by omega) (by omega);refine ⟨_,hev,⟨h1,h2,h3,h4,l,rfl,j1,?_⟩,l,rfl⟩
  by_cases q1 : parts.length = 1
  ·have := j2 q1; omega
  ·by_cases q0 : parts.length = 0
   ·have : parts = [] := List.length_eq_zero_iff.1 q0;rw [this] at j3 h6;simp [sumL] at j3 h6;omega
   ·omega
 by_cases he1 : s1.e = 0
 ·rw [if_pos he1] at hmm;have h7 := h7 he1;have hg5 : (s1.e == 0) = true := by simpa using he1
  by_cases hlt : s1.i < gs.length
  ·have hg17 : decide (((s1.i : Nat) : Int) < ((gs.length : Nat) : Int)) = true := by rw [decide_eq_true_eq]; omega
   cases hg22 : (!isS gs s1.i 124) with
   | false =>
    refine zQ 17 ?_;refine qn ?_ (hg := wi hg5);simp only [List.length_map];refine zQ 4 ?_;obtain ⟨_,st,hev,rfl,hH⟩ := is_ev (s := s1) (by omega) 124 hH;refine qv hev ?_ (hg := wi hg17);refine zQ 17 ?_;obtain ⟨_,hjo,hQ,l,rfl⟩ := hexit _ hH;refine zQ 3 ?_;refine qv (hjo) ?_;refine zQ 2 ?_;refine EvC.ret ⟨rx,_,_,_,rfl,leaveD_rw (rfl),?_⟩;exact ⟨s1,hQ,hH0.leaveRw1 hS2 (hH.erase 2)⟩
   | true =>
    cases hg25 : isS gs s1.i 41 with
    | false =>
     refine zQ 17 ?_;refine qn ?_ (hg := wi hg5);simp only [List.length_map];refine zQ 4 ?_;obtain ⟨_,st,hev,rfl,hH⟩ := is_ev (s := s1) (by omega) 124 hH;refine qv hev ?_ (hg := wi hg17);refine zQ 4 ?_;obtain ⟨_,st,hev,rfl,hH⟩ := is_ev (s := s1) (by omega) 41 hH;refine qv hev ?_ (hg := wi hg22);refine zQ 6 ?_;refine EvO.pickF (wantD_is rfl rfl rfl hg22) rfl hg25 (put_T rfl _) ?_;refine zQ 9 ?_;obtain ⟨_,st,hev,s2,⟨r1,r2,r3,r4,l,rfl,r5,r6,r7⟩,hH⟩ := rep_ev hA hok (s := s1) he1 hlt h2 (by omega) hH;refine qv hev ?_;refine qh (s := 1) (vs := [_]) hH fun k41 st hk41 hH => ?_;dsimp only [u2,u1,u3,u4,setMany,u5,u6,D.cells,Nat.reduceAdd,prsC,gotC,intC,rangeC,partC] at hH;refine EvO.happend (s := 1) hH rfl (ev rfl) (ev rfl) (by exact at3) (by exact hH.rows (by exact at0)) rfl rfl rfl rfl rfl rfl rfl ⟨(Nat.le_of_ble_eq_true rfl),(Nat.le_of_ble_eq_true rfl)⟩ (fun _ => (put_T rfl _)) (by simp only [List.length_cons,List.length_nil,List.length_map] <;> omega) (by exact .inr rfl) (fun x42 st hH => ?_);dsimp only [u2,u1,u3,u4,setMany,u5,u6,D.cells,Nat.reduceAdd,prsC,gotC,intC,rangeC,partC] at hH;refine zQ 2 ?_;have hH := hH.drop 1;refine ⟨mm - 1,by omega,⟨s2,x42,parts ++ [l],rfl,(by rw [List.map_append]; exact hH),by omega,r2,by omega,r4,?_,by rw [sumL_append,List.length_append]; simp only [sumL,List.length_cons,List.length_nil]; omega,(fun e => by rw [sumL_append,List.length_append]; simp only [sumL,List.length_cons,List.length_nil]; omega),by split <;> omega⟩⟩;intro l' hl'
     rcases List.mem_append.1 hl' with hl' | hl'
     ·exact h5 l' hl'
     ·simp only [List.mem_cons,List.not_mem_nil,or_false] at hl'; subst hl'; exact r5
    | true =>
     refine zQ 17 ?_;refine qn ?_ (hg := wi hg5);simp only [List.length_map];refine zQ 4 ?_;obtain ⟨_,st,hev,rfl,hH⟩ := is_ev (s := s1) (by omega) 124 hH;refine qv hev ?_ (hg := wi hg17);refine zQ 4 ?_;obtain ⟨_,st,hev,rfl,hH⟩ := is_ev (s := s1) (by omega) 41 hH;refine qv hev ?_ (hg := wi hg22);refine zQ 6 ?_;refine EvO.pickT (wantD_is rfl rfl rfl hg22) rfl hg25 (put_T rfl _) ?_;refine zQ 3 ?_
     by_cases hop : 0 < s1.o
     ·have hcc : (!decide (((s1.o : Nat) : Int) > 0)) = false := by rw [decide_eq_true (by omega)]; rfl
      refine qE rfl (by rw [hcc]) ?_;refine zQ 1 ?_;obtain ⟨_,hjo,hQ,l,rfl⟩ := hexit _ hH;refine zQ 3 ?_;refine qv (hjo) ?_;refine zQ 2 ?_;refine EvC.ret ⟨rx,_,_,_,rfl,leaveD_rw (rfl),?_⟩;exact ⟨s1,hQ,hH0.leaveRw1 hS2 (hH.erase 2)⟩
     ·have hcc : (!decide (((s1.o : Nat) : Int) > 0)) = true := by rw [decide_eq_false (by omega)]; rfl
      refine qD rfl (by rw [hcc]) ?_;refine zQ 5 ?_;obtain ⟨_,st,hev,s2,⟨r1,r2,r3,r4,l,rfl,r5,r6,r7⟩,hH⟩ := rep_ev hA hok (s := s1) he1 hlt h2 (by omega) hH;refine qv hev ?_;refine qh (s := 1) (vs := [_]) hH fun k41 st hk41 hH => ?_;dsimp only [u2,u1,u3,u4,setMany,u5,u6,D.cells,Nat.reduceAdd,prsC,gotC,intC,rangeC,partC] at hH;refine EvO.happend (s := 1) hH rfl (ev rfl) (ev rfl) (by exact at3) (by exact hH.rows (by exact at0)) rfl rfl rfl rfl rfl rfl rfl ⟨(Nat.le_of_ble_eq_true rfl),(Nat.le_of_ble_eq_true rfl)⟩ (fun _ => (put_T rfl _)) (by simp only [List.length_cons,List.length_nil,List.length_map] <;> omega) (by exact .inr rfl) (fun x42 st hH => ?_);dsimp only [u2,u1,u3,u4,setMany,u5,u6,D.cells,Nat.reduceAdd,prsC,gotC,intC,rangeC,partC] at hH;refine zQ 2 ?_;have hH := hH.drop 1;refine ⟨mm - 1,by omega,⟨s2,x42,parts ++ [l],rfl,(by rw [List.map_append]; exact hH),by omega,r2,by omega,r4,?_,by rw [sumL_append,List.length_append]; simp only [sumL,List.length_cons,List.length_nil]; omega,(fun e => by rw [sumL_append,List.length_append]; simp only [sumL,List.length_cons,List.length_nil]; omega),by split <;> omega⟩⟩;intro l' hl'
      rcases List.mem_append.1 hl' with hl' | hl'
      ·exact h5 l' hl'
      ·simp only [List.mem_cons,List.not_mem_nil,or_false] at hl'; subst hl'; exact r5
  ·have hg17 : decide (((s1.i : Nat) : Int) < ((gs.length : Nat) : Int)) = false := by rw [decide_eq_false_iff_not]; omega
   refine zQ 17 ?_;refine qn ?_ (hg := wi hg5);simp only [List.length_map];refine zQ 22 ?_;obtain ⟨_,hjo,hQ,l,rfl⟩ := hexit _ hH;refine zQ 3 ?_;refine qv (hjo) ?_;refine zQ 2 ?_;refine EvC.ret ⟨rx,_,_,_,rfl,leaveD_rw (rfl),?_⟩;exact ⟨s1,hQ,hH0.leaveRw1 hS2 (hH.erase 2)⟩
 ·have hg5 : (s1.e == 0) = false := by simpa using he1
  refine zQ 40 ?_;obtain ⟨_,hjo,hQ,l,rfl⟩ := hexit _ hH;refine zQ 3 ?_;refine qv (hjo) ?_;refine zQ 2 ?_;refine EvC.ret ⟨rx,_,_,_,rfl,leaveD_rw (rfl),?_⟩;exact ⟨s1,hQ,hH0.leaveRw1 hS2 (hH.erase 2)⟩
theorem alt2_ev : ∀ m : Nat,AltSpec m := by
 intro m
 induction m using Nat.strongRecOn with
 | ind m ih0 =>
 have hA : ∀ m',m' + 1 = m -> AltSpec m' := fun m' h => ih0 m' (by omega);intro N k S s0 H gs plD pls s hok he hi hg ho hH;have hgl := hok.gl;have hpl := hok.pl;refine Ev.mkE rfl fi38 rfl rfl rfl ?_;refine zE ?_;have hH0 := hH;have hH := hH.enterRw;have hS2 : (enterSt .rw s0).bs = s0.bs := rfl;generalize enterSt .rw s0 = S2 at *;refine zQ 7 ?_;obtain ⟨_,st,hev,s1,⟨p1,p2,p3,p4,l,rfl,p5,p6⟩,hH⟩ := cat_ev hA hok he hi hg ho hH;refine qv hev ?_;refine qh (s := 1) (vs := [_]) hH fun k6 st hk6 hH => ?_;dsimp only [u2,u1,u3,u4,setMany,u5,u6,D.cells,Nat.reduceAdd,prsC,gotC,intC,rangeC,partC] at hH;refine zQ 2 ?_;have hH : Has N S2 st (.box k (.mem 0 false (prsC gs plD s1)) :: .lst plD 1 (pls.map intC) :: .lst (.win k6 0 0 1 1) 1 ([l].map partC) :: H) := Has_rot3 hH;refine zQ 2 ?_;refine EvC.loop (fun mm fr st => ∃ (s1 : Prs) (pd : D) (parts : List (List Nod)),fr.clean = ⟨4, [.ptr k 0 0,ixF_Pj fr 1,ixF_Pj fr 2,pd], []⟩ /\ Has N S2 st (.box k (.mem 0 false (prsC gs plD s1)) :: .lst plD 1 (pls.map intC) :: .lst pd 1 (parts.map partC) :: H) /\ (s1.o = s.o) /\ (s1.g <= 4) /\ (s.i <= s1.i) /\ (s1.i <= gs.length) /\ (∀ l ∈ parts, ∀ n ∈ l,NdV n) /\ (sumL parts + 3 * parts.length <= 4 * (s1.i - s.i) + 4) /\ (1 <= parts.length) /\ (gs.length - s1.i <= mm)) (gs.length) ?_ ?_
 ·exact ⟨s1, .win k6 0 0 1 1, [l],rfl,hH,p1,p2,p3,p4,(fun l' hl' => by simp only [List.mem_cons,List.not_mem_nil,or_false] at hl'; subst hl'; exact p5),by simp only [sumL,List.length_cons,List.length_nil]; omega,by simp,by omega⟩
 rintro mm fr st ⟨s1,pd,parts,hfr,hH,h1,h2,h3,h4,h5,h6,h8,hmm⟩;rw [hfr];clear hfr;generalize ixF_Pj fr = ee;clear fr
 have hexit : ∀ st : St,Has N S2 st (.box k (.mem 0 false (prsC gs plD s1)) :: .lst plD 1 (pls.map intC) :: .lst pd 1 (parts.map partC) :: H) -> ∃ d,Ev pv 73 [.int .i64 4,pd] st d st /\ NodesQ gs s s1 d /\ ∃ l,d = nlD l := by
  intro st hH;obtain ⟨_,hev,l,rfl,j1,j2,j3⟩ := joined_ev 4 (hH.rows at2) h5 (by omega) (by omega);refine ⟨_,hev,⟨h1,h2,h3,h4,l,rfl,j1,?_⟩,l,rfl⟩
  by_cases q1 : parts.length = 1
  ·have := j2 q1; omega
  ·omega
 by_cases he1 : s1.e = 0
 ·have hg5 : (s1.e == 0) = true := by simpa using he1
  obtain ⟨k1,k2,k3,k4,k5⟩ := skip_i (gs := gs) (s := s1) (r := 124);have k5 := k5 h4;refine zQ 10 ?_;obtain ⟨_,st,hev,rfl,hH⟩ := skip_ev (s := s1) (by omega) 124 hH;refine qv hev ?_ (hg := wi hg5);refine zQ 2 ?_
  cases hb : isS gs s1.i 124 with
  | false =>
   rw [skip_no hb] at hH;refine zQ 2 ?_;obtain ⟨_,hjo,hQ,l,rfl⟩ := hexit _ hH;refine zQ 3 ?_;refine qv (hjo) ?_;refine zQ 2 ?_;refine EvC.ret ⟨rx,_,_,_,rfl,leaveD_rw (rfl),?_⟩;exact ⟨s1,hQ,hH0.leaveRw1 hS2 (hH.erase 2)⟩
  | true =>
   have k6 := skip_yes hb;generalize skipS gs s1 124 = s2 at *;refine zQ 6 ?_;obtain ⟨_,st,hev,s3,⟨r1,r2,r3,r4,l,rfl,r5,r6⟩,hH⟩ := cat_ev hA hok (s := s2) (by omega) k5 (by omega) (by omega) hH;refine qv hev ?_;refine qh (s := 1) (vs := [_]) hH fun k19 st hk19 hH => ?_;dsimp only [u2,u1,u3,u4,setMany,u5,u6,D.cells,Nat.reduceAdd,prsC,gotC,intC,rangeC,partC] at hH;refine EvO.happend (s := 1) hH rfl (ev rfl) (ev rfl) (by exact at3) (by exact hH.rows (by exact at0)) rfl rfl rfl rfl rfl rfl rfl ⟨(Nat.le_of_ble_eq_true rfl),(Nat.le_of_ble_eq_true rfl)⟩ (fun _ => (put_T rfl _)) (by simp only [List.length_cons,List.length_nil,List.length_map] <;> omega) (by exact .inr rfl) (fun x20 st hH => ?_);dsimp only [u2,u1,u3,u4,setMany,u5,u6,D.cells,Nat.reduceAdd,prsC,gotC,intC,rangeC,partC] at hH;refine zQ 2 ?_;have hH := hH.drop 1;refine ⟨mm - 1,by omega,⟨s3,x20,parts ++ [l],rfl,(by rw [List.map_append]; exact hH),by omega,r2,by omega,r4,?_,by rw [sumL_append,List.length_append]; simp only [sumL,List.length_cons,List.length_nil]; omega,by rw [List.length_append]; omega,by omega⟩⟩;intro l' hl'
   rcases List.mem_append.1 hl' with hl' | hl'
   ·exact h5 l' hl'
   ·simp only [List.mem_cons,List.not_mem_nil,or_false] at hl'; subst hl'; exact r5
 ·have hg5 : (s1.e == 0) = false := by simpa using he1
  refine zQ 15 ?_;obtain ⟨_,hjo,hQ,l,rfl⟩ := hexit _ hH;refine zQ 3 ?_;refine qv (hjo) ?_;refine zQ 2 ?_;refine EvC.ret ⟨rx,_,_,_,rfl,leaveD_rw (rfl),?_⟩;exact ⟨s1,hQ,hH0.leaveRw1 hS2 (hH.erase 2)⟩
theorem allS_len : ∀ (n : Nat) (b : List UInt8),b.length <= n -> (allS b).length <= b.length /\ ∀ g ∈ allS b,g.2 <= b.length := by
 intro n
 induction n with
 | zero =>
  intro b hb;have : b = [] := List.length_eq_zero_iff.1 (by omega);subst this;rw [allS_nil]; exact ⟨Nat.le_refl _,fun g hg => by cases hg⟩
 | succ n ih =>
  intro b hb
  by_cases h : b = []
  ·subst h; rw [allS_nil]; exact ⟨Nat.le_refl _,fun g hg => by cases hg⟩
  ·have hp := oneS_pos b;have hl := oneS_le h;obtain ⟨h1,h2⟩ := ih (b.drop (oneS b).2) (by rw [List.length_drop]; omega);rw [List.length_drop] at h1 h2;rw [allS_cons h];refine ⟨by rw [List.length_cons]; omega,fun g hg => ?_⟩
   rcases List.mem_cons.1 hg with rfl | hg
   ·exact hl
   ·have := h2 g hg; omega
def ixF_Pk (fr : Go.V.Fr) (k : Nat) : Go.V.D := Go.V.nth .junk fr.loc k
def ParseP (d : D) : Prop := ∃ (l : List Nod) (e w : Int),d = .tup [nlD l, .int .i64 e, .int .i64 w] /\ (∀ n ∈ l,NdV n) /\ l.length <= 500
theorem parse_ev {s0 : St} {b : List UInt8} (hbl : b.length <= 1048576) : ∃ d,Ev pv 11 [.str b] s0 d s0 /\ ParseP d := by
 obtain ⟨hgl,hgs⟩ := allS_len _ b (Nat.le_refl _);have hev : ∀ (st : St) (x : D),Bytes st x b -> Ev pv 28 [x] st (gotsD (allS b)) st := fun st x h => all_ev h hbl;generalize allS b = gs at *;refine Ev.mkR rfl fi11 rfl rfl rfl ?_;refine zE ?_;obtain ⟨hSb,hF,hH⟩ := ri s0;generalize enterSt .ro s0 = S at *;have hgr : Arg s0.bs.length S 2 (gotsD gs) (gs.map gotC) := Arg.pure (fun st => gots_rows st gs);refine zQ 10 ?_;refine EvO.slen rfl rfl rfl (by dsimp only [Fr.put,u1,u2] <;> rfl) ?_;refine zQ 2 ?_
 by_cases hlong : 120 < b.length
 ·have hcc : decide (((b.length : Nat) : Int) > 120) = true := by rw [decide_eq_true_eq]; omega
  refine qD rfl (by rw [hcc]) ?_;refine zQ 6 ?_;refine EvC.ret ⟨rx,_,_,rfl,rl hSb hH (rfl),?_⟩;exact ⟨[],2,0,rfl,fun n hn => (by cases hn),by simp⟩
 have hcc : decide (((b.length : Nat) : Int) > 120) = false := by rw [decide_eq_false_iff_not]; omega
 refine qE rfl (by rw [hcc]) ?_;refine zQ 4 ?_;refine EvO.hbytes hH rfl rfl rfl rfl rfl (by omega) (fun _ => by dsimp only [Fr.put,u1,u2] <;> rfl) (fun k14 st hk14 hH => ?_);refine qv ((hev _ _ (hH.rows at0))) ?_;refine EvO.go (d := .agg [gotsD gs, .nul, .int .i64 0, .int .i64 0, .int .i64 0, .int .i64 0, .int .i64 0]) (st1 := _) rfl rfl rfl (by dsimp only [Fr.put,u1,u2] <;> rfl) ?_;refine qb hH fun k17 st hk17 hH => ?_;refine zQ 13 ?_;refine qn ?_;simp only [List.length_map];refine zQ 2 ?_;have hH : Has s0.bs.length S st (.box k17 (.mem 0 false [gotsD gs, .nul, .int .i64 0, .int .i64 0, .int .i64 0, .int .i64 0, .int .i64 0]) :: .lst .nul 1 (([] : List Int).map intC) :: []) := ((hH.erase 1).nulE 1).front at1;refine zQ 1 ?_;refine EvC.loop (fun mm fr st => ∃ (i a : Nat) (pd : D) (pls : List Int),fr.clean = ⟨24, [ixF_Pk fr 0,ixF_Pk fr 1,ixF_Pk fr 2,ixF_Pk fr 3,ixF_Pk fr 4, .ptr k17 0 0, .int .i64 (a : Nat),ixF_Pk fr 7,ixF_Pk fr 8,ixF_Pk fr 9,ixF_Pk fr 10,ixF_Pk fr 11,ixF_Pk fr 12,ixF_Pk fr 13,ixF_Pk fr 14,ixF_Pk fr 15,ixF_Pk fr 16,ixF_Pk fr 17,ixF_Pk fr 18,ixF_Pk fr 19,ixF_Pk fr 20,gotsD gs, .int .i64 (gs.length : Nat), .int .i64 (i : Nat)], []⟩ /\ Has s0.bs.length S st [.box k17 (.mem 0 false [gotsD gs,pd, .int .i64 0, .int .i64 0, .int .i64 0, .int .i64 0, .int .i64 0]), .lst pd 1 (pls.map intC)] /\ (i + mm = gs.length) /\ (pls.length = i) /\ (a <= 120 * i)) (gs.length) ?_ ?_
 ·exact ⟨0,0, .nul, [],rfl,hH,by omega,rfl,by omega⟩
 rintro mm fr st ⟨i,a,pd,pls,hfr,hH,hi,hpl,ha⟩;rw [hfr];clear hfr;generalize ixF_Pk fr = ee;clear fr;refine zQ 4 ?_
 by_cases hlt : i < gs.length
 ·obtain ⟨g,hg⟩ : ∃ g,gs[i]? = some g := ⟨gs[i]'hlt,List.getElem?_eq_getElem _⟩
  have hr1 : (gs.map gotC)[i]? = some (gotC g) := by rw [List.getElem?_map,hg]; rfl
  have hg2 := hgs g (List.mem_of_getElem? hg);have hc2 : decide (((i : Nat) : Int) < ((gs.length : Nat) : Int)) = true := by rw [decide_eq_true_eq]; omega
  refine qq ?_;refine qD rfl (by rw [hc2]) ?_;refine zQ 5 ?_;refine qr fun p25 hp25 => ?_;refine EvO.rloadS rfl (ev rfl) (by assumption) rfl (put_T rfl _) ?_;refine qa hH fun k8 st hk8 hH => ?_;refine qS hH at0 fun st hH => ?_;dsimp only [u2,u1,u3,u4,setMany,u5,u6,D.cells,Nat.reduceAdd,prsC,gotC,intC] at hH;refine zQ 9 ?_;refine qh (s := 1) (vs := [_]) hH fun k33 st hk33 hH => ?_;refine EvO.happend (s := 1) hH rfl (ev rfl) (ev rfl) (by exact at3) (by exact hH.rows (by exact at0)) rfl rfl rfl rfl rfl rfl rfl ⟨(Nat.le_of_ble_eq_true rfl),(Nat.le_of_ble_eq_true rfl)⟩ (fun _ => (put_T rfl _)) (by simp only [List.length_cons,List.length_nil,List.length_map] <;> omega) (by exact .inl hF) (fun x34 st hH => ?_);dsimp only [u2,u1,u3,u4,setMany,u5,u6,D.cells,Nat.reduceAdd,prsC,gotC,intC] at hH;refine zQ 2 ?_;refine qT hH at2 (fun st hH => ?_) (hcs := hH.ocells at3);dsimp only [u2,u1,u3,u4,setMany,u5,u6,D.cells,Nat.reduceAdd,prsC,gotC,intC] at hH;refine zQ 5 ?_;refine EvO.addN rfl (ev rfl) (ev rfl) (by omega) (put_T rfl _) ?_;refine zQ 6 ?_;exact ⟨mm - 1,by omega,⟨i + 1,a + g.2,x34,pls ++ [((a : Nat) : Int)],rfl,(by rw [List.map_append]; exact hH.drop 2),by omega,by rw [List.length_append,hpl]; rfl,by omega⟩⟩
 ·have hc2 : decide (((i : Nat) : Int) < ((gs.length : Nat) : Int)) = false := by rw [decide_eq_false_iff_not]; omega
  refine qq ?_;refine qE rfl (by rw [hc2]) ?_;refine zQ 1 ?_
  have hok : PrsOk gs pls := ⟨by omega,by omega⟩
  have hH : Has s0.bs.length S st (.box k17 (.mem 0 false (prsC gs pd ⟨0,0,0,0,0⟩)) :: .lst pd 1 (pls.map intC) :: []) := hH;refine zQ 3 ?_;obtain ⟨_,st,hev,s1,⟨p1,p2,p3,p4,l,rfl,p5,p6⟩,hH⟩ := alt2_ev 20 (s := ⟨0,0,0,0,0⟩) hok rfl (by simp) (by simp) rfl hH;refine qv hev ?_;refine zQ 2 ?_;have p6 : l.length <= 4 * (s1.i - 0) + 1 := p6;refine zQ 2 ?_;refine EvC.merge3 (fun fr st => ∃ (s2 : Prs) (tmp : List (Nat × D)),fr = ⟨24, [ixF_Pk fr 0,ixF_Pk fr 1,ixF_Pk fr 2,ixF_Pk fr 3,ixF_Pk fr 4, .ptr k17 0 0,ixF_Pk fr 6,ixF_Pk fr 7,ixF_Pk fr 8,nlD l,ixF_Pk fr 10,ixF_Pk fr 11,ixF_Pk fr 12,ixF_Pk fr 13,ixF_Pk fr 14,ixF_Pk fr 15,ixF_Pk fr 16,ixF_Pk fr 17,ixF_Pk fr 18,ixF_Pk fr 19,ixF_Pk fr 20,ixF_Pk fr 21,ixF_Pk fr 22,ixF_Pk fr 23],tmp⟩ /\ Has s0.bs.length S st (.box k17 (.mem 0 false (prsC gs pd s2)) :: .lst pd 1 (pls.map intC) :: []) /\ (True)) ?_ ?_
  ·by_cases he1 : s1.e = 0
   ·have hg5 : (s1.e == 0) = true := by simpa using he1
    refine zQ 15 ?_;refine qn ?_ (hg := wi hg5);simp only [List.length_map];refine zQ 3 ?_;refine zP (fun hin => ?_) fun hin => ?_
    ·refine zQ 6 ?_;obtain ⟨_,st,hev,rfl,hH⟩ := wrong_ev (s := s1) s1.i 4 (by omega) hH;refine qv hev ?_;refine zQ 1 ?_;exact ⟨_,_,rfl,hH,trivial⟩
    ·refine zQ 1 ?_;exact ⟨s1,_,rfl,hH,trivial⟩
   ·have hg5 : (s1.e == 0) = false := by simpa using he1
    refine zQ 21 ?_;exact ⟨s1,_,rfl,hH,trivial⟩
  ·rintro fr st ⟨s2,tmp,hfr,hH,ht⟩;rw [hfr];clear hfr;generalize ixF_Pk fr = ee;clear fr;refine zQ 9 ?_;refine EvC.cond (by rfl) (fun hne => ?_) (fun hne => ?_) <;> try simp only [bne_iff_ne,bne_eq_false_iff_eq,ne_eq] at hne
   ·refine zQ 14 ?_;refine EvC.ret ⟨rx,_,_,rfl,rl hSb hH (rfl),?_⟩;exact ⟨[],_,_,rfl,fun n hn => (by cases hn),by simp⟩
   ·refine zQ 8 ?_;refine EvC.ret ⟨rx,_,_,rfl,rl hSb hH (rfl),?_⟩;exact ⟨l,0,0,rfl,p5,by omega⟩
def plainN (n : Nod) : Bool := ((n.op == 2) || ((n.rs.length : Nat) : Int) == 0) && ((n.op == 5) || ((n.mn == 0) && (n.mx == 0) && !n.lz)) && ((n.op == 6) || (n.cap == 0))
noncomputable def shapeN (n : Nod) (g : Int) : Int × Bool :=
  if plainN n = false then (0,false)
  else if n.op = 1 \/ n.op = 7 \/ n.op = 8 then (0,n.kids == 0)
  else if n.op = 2 then (0,(n.kids == 0) && rightS n.rs)
  else if n.op = 3 \/ n.op = 4 then (n.kids,decide (n.kids >= 2))
  else if n.op = 5 then (1,(n.kids == 1) && decide (n.mn >= 0) && decide (n.mn <= 30) && ((n.mx == -1) || (decide (n.mx >= n.mn) && decide (n.mx <= 30))))
  else if n.op = 6 then (1,(n.kids == 1) && (n.cap == g + 1) && decide (n.cap <= 4))
  else (0,false)
def kidsS (h : Nat -> Nat -> Option (Nat × Nat)) : Nat -> Nat -> Nat -> Option (Nat × Nat)
  | 0,at_,g => some (at_,g)
  | k + 1,at_,g => match h at_ g with
    | some r => kidsS h k r.1 r.2
    | none => none
noncomputable def oneW (l : List Nod) : Nat -> Nat -> Nat -> Option (Nat × Nat)
  | 0,_,_ => none
  | f + 1,at_,g => match l[at_]? with
    | none => none
    | some n => if (shapeN n (g : Nat)).2 = true then kidsS (oneW l f) (shapeN n (g : Nat)).1.toNat (at_ + 1) (if n.op = 6 then g + 1 else g) else none
theorem shape_ok {n : Nod} {g : Nat} (h : (shapeN n (g : Nat)).2 = true) : nodOk n (shapeN n (g : Nat)).1.toNat /\ 0 <= (shapeN n (g : Nat)).1 /\ (n.op = 6 -> n.cap = g + 1 /\ n.cap <= 4) := by
  unfold shapeN at h ⊢
  unfold nodOk
  by_cases h0 : plainN n = false
  · rw [if_pos h0] at h; cases h
  rw [if_neg h0] at h ⊢
  by_cases h1 : n.op = 1 \/ n.op = 7 \/ n.op = 8
  · rw [if_pos h1] at h ⊢
    simp only [beq_iff_eq] at h
    exact ⟨⟨h, .inl ⟨h1,rfl⟩⟩,Int.le_refl _,fun h6 => by omega⟩
  rw [if_neg h1] at h ⊢
  by_cases h2 : n.op = 2
  · rw [if_pos h2] at h ⊢
    simp only [Bool.and_eq_true,beq_iff_eq] at h
    exact ⟨⟨h.1, .inr (.inl ⟨h2,rfl⟩)⟩,Int.le_refl _,fun h6 => by omega⟩
  rw [if_neg h2] at h ⊢
  by_cases h3 : n.op = 3 \/ n.op = 4
  · rw [if_pos h3] at h ⊢
    simp only [decide_eq_true_eq] at h
    exact ⟨⟨by simp only; omega, .inr (.inr (.inl ⟨h3,by simp only; omega⟩))⟩,by simp only; omega,fun h6 => by omega⟩
  rw [if_neg h3] at h ⊢
  by_cases h5 : n.op = 5
  · rw [if_pos h5] at h ⊢
    simp only [Bool.and_eq_true,Bool.or_eq_true,beq_iff_eq,decide_eq_true_eq] at h
    exact ⟨⟨by simp only; omega, .inr (.inr (.inr (.inl ⟨h5,by simp only; rfl,by omega,by omega,by omega⟩)))⟩,by simp only; omega,fun h6 => by omega⟩
  rw [if_neg h5] at h ⊢
  by_cases h6 : n.op = 6
  · rw [if_pos h6] at h ⊢
    simp only [Bool.and_eq_true,beq_iff_eq,decide_eq_true_eq] at h
    exact ⟨⟨by simp only; omega, .inr (.inr (.inr (.inr ⟨h6,by simp only; rfl,by omega,by omega⟩)))⟩,by simp only; omega,fun _ => ⟨h.1.2,h.2⟩⟩
  rw [if_neg h6] at h
  cases h
theorem Seg.cons {α : Type} {L M : List α} {a : α} {at_ : Nat} (h : L[at_]? = some a) (h2 : Seg L (at_ + 1) M) : Seg L at_ (a :: M) := by
  obtain ⟨post,h2⟩ := h2
  refine ⟨post,?_⟩
  have h3 : L[at_]'(lt_get h) = a := Option.some.inj ((List.getElem?_eq_getElem _).symm.trans h)
  rw [List.drop_eq_getElem_cons (lt_get h),h2,h3]; rfl
theorem Seg.append {α : Type} {L M M' : List α} {at_ : Nat} (h : Seg L at_ M) (h2 : Seg L (at_ + M.length) M') : Seg L at_ (M ++ M') := by
  obtain ⟨post,h⟩ := h
  obtain ⟨post',h2⟩ := h2
  refine ⟨post',?_⟩
  rw [<- List.drop_drop,h,List.drop_left] at h2
  rw [h,h2,List.append_assoc]
theorem Seg.none {α : Type} (L : List α) (at_ : Nat) : Seg L at_ [] := ⟨_,rfl⟩
theorem kids_tree {l : List Nod} {h : Nat -> Nat -> Option (Nat × Nat)} (ih : ∀ at_ g r,h at_ g = some r -> ∃ t : Tr,t.ok /\ Seg l at_ t.flat /\ r.1 = at_ + t.flat.length) : ∀ k at_ g r,kidsS h k at_ g = some r -> ∃ ts : Trs,ts.len = k /\ ts.ok /\ Seg l at_ ts.flat /\ r.1 = at_ + ts.flat.length
  | 0,at_,g,r,e => by
    simp only [kidsS,Option.some.injEq] at e
    subst e
    exact ⟨.nil,rfl,trivial,Seg.none _ _,by simp [Trs.flat]⟩
  | k + 1,at_,g,r,e => by
    unfold kidsS at e
    cases hq : h at_ g with
    | none => rw [hq] at e; cases e
    | some q =>
      rw [hq] at e
      obtain ⟨t,t1,t2,t3⟩ := ih _ _ _ hq
      obtain ⟨ts,u1,u2,u3,u4⟩ := kids_tree ih k _ _ _ e
      rw [t3] at u3 u4
      exact ⟨.cons t ts,by simp [Trs.len,u1],by simp only [Trs.ok]; exact ⟨t1,u2⟩,by simp only [Trs.flat]; exact t2.append u3,by rw [u4]; simp only [Trs.flat,List.length_append]; omega⟩
theorem one_tree {l : List Nod} : ∀ f at_ g r,oneW l f at_ g = some r -> ∃ t : Tr,t.ok /\ Seg l at_ t.flat /\ r.1 = at_ + t.flat.length
  | 0,_,_,_,e => by simp [oneW] at e
  | f + 1,at_,g,r,e => by
    unfold oneW at e
    cases hn : l[at_]? with
    | none => rw [hn] at e; cases e
    | some n =>
      rw [hn] at e
      simp only at e
      split at e
      · rename_i hs
        obtain ⟨ts,u1,u2,u3,u4⟩ := kids_tree (one_tree f) _ _ _ _ e
        have := (shape_ok hs).1
        rw [<- u1] at this
        exact ⟨.mk n ts,by simp only [Tr.ok]; exact ⟨this,u2⟩,by simp only [Tr.flat]; exact Seg.cons hn u3,by rw [u4]; simp only [Tr.flat,List.length_cons]; omega⟩
      · cases e
noncomputable def rightN (l : List Nod) : Bool := (decide (1 <= l.length) && decide (l.length <= 480)) && (match oneW l 241 0 0 with | some r => decide (r.1 = l.length) | none => false)
theorem right_tree {l : List Nod} (h : rightN l = true) : ∃ t : Tr,t.ok /\ t.flat = l := by
  unfold rightN at h
  simp only [Bool.and_eq_true] at h
  obtain ⟨_,h⟩ := h
  split at h
  · rename_i r hr
    obtain ⟨t,h1,⟨post,h2⟩,h3⟩ := one_tree _ _ _ _ hr
    rw [decide_eq_true_eq] at h
    refine ⟨t,h1,?_⟩
    rw [List.drop_zero] at h2
    have h4 := congrArg List.length h2
    rw [List.length_append] at h4
    have h5 : post = [] := List.length_eq_zero_iff.1 (by omega)
    rw [h2,h5,List.append_nil]
  · cases h
noncomputable def treeN (l : List Nod) : Tr := @dite _ (∃ t : Tr,t.ok /\ t.flat = l) (Classical.propDecidable _) (fun h => Classical.choose h) (fun _ => .mk ⟨0, .nul, [],0,0,false,0,0⟩ .nil)
theorem tree_is {l : List Nod} (h : rightN l = true) : (treeN l).ok /\ (treeN l).flat = l := by
  unfold treeN
  rw [dif_pos (right_tree h)]
  exact Classical.choose_spec (right_tree h)
theorem cap_nod {n : Nod} {k s : Nat} : min (nodSz n (min s 401) k) 401 = min (nodSz n s k) 401 := by
  by_cases hs : s <= 401
  · rw [Nat.min_eq_left hs]
  · have hx : min s 401 = 401 := by omega
    rw [hx]
    unfold nodSz
    split
    · rfl
    · split
      · omega
      · split
        · omega
        · split
          · split
            · omega
            · by_cases h0 : n.mn.toNat = 0
              · rw [h0]
                by_cases hd : n.mx.toNat - 0 = 0
                · rw [hd]; simp
                · have h1 := Nat.le_mul_of_pos_left (401 + 1) (show 0 < n.mx.toNat - 0 by omega)
                  have h2 := Nat.le_mul_of_pos_left (s + 1) (show 0 < n.mx.toNat - 0 by omega)
                  omega
              · have h1 := Nat.le_mul_of_pos_left 401 (show 0 < n.mn.toNat by omega)
                have h2 := Nat.le_mul_of_pos_left s (show 0 < n.mn.toNat by omega)
                omega
          · omega
def ruleC (t : Tr) (b r : Nat) : List PIns := mkI 4 0 0 [] :: (codeT t (b + 1) ++ [mkI 4 1 0 [],mkI 7 (r : Nat) 0 []])
theorem ruleC_len {t : Tr} {b r : Nat} (h : t.ok) : (ruleC t b r).length = t.sz + 3 := by
  unfold ruleC
  rw [List.length_cons,List.length_append,codeT_len t _ h]; rfl
structure CompR where
  code : List PIns
  starts : List Int
  e : Int
  w : Int
noncomputable def compS : List (List Nod) -> Nat -> List PIns -> List Int -> CompR
  | [],_,c,s => ⟨c,s,0,0⟩
  | l :: ls,r,c,s => if rightN l = false then ⟨[], [],1,(r : Nat)⟩ else if 400 < c.length + min (treeN l).sz 401 + 3 then ⟨[], [],12,(r : Nat)⟩ else compS ls (r + 1) (c ++ ruleC (treeN l) c.length r) (s ++ [((c.length : Nat) : Int)])
noncomputable def compileS (rules : List (List Nod)) : CompR := if 8 < rules.length then ⟨[], [],13,8⟩ else compS rules 0 [] []
def pgV (code : List PIns) (starts : List Int) : Pg := ⟨.sl ((code.map insC).map (elD 4)),code,intsV starts,starts⟩
def InsV (i : PIns) : Prop := i.rd = .sl ((i.rs.map rangeC).map (elD 2)) /\ i.rs.length <= 1048576
theorem mkI_v (op x y : Int) : InsV (mkI op x y []) := ⟨rfl,by simp [mkI]⟩
theorem mkI_r (op x y : Int) {rs : List Rg} (h : rs.length <= 1048576) : InsV (mkI op x y rs) := ⟨rfl,h⟩
theorem spI_v (s o : Nat) (lz : Bool) : InsV (spI s o lz) := by unfold spI; split <;> exact mkI_v _ _ _
theorem jpI_v (e : Nat) : InsV (jpI e) := mkI_v _ _ _
theorem insV_plain {code : List PIns} (h : ∀ i ∈ code,InsV i) : ∀ e ∈ code.map insC, ∀ d ∈ e,plainC d = true := by
  intro e he d hd
  obtain ⟨q,hq,rfl⟩ := List.mem_map.1 he
  have hr := (h q hq).1
  simp only [insC,hr,List.mem_cons,List.not_mem_nil,or_false] at hd
  rcases hd with rfl | rfl | rfl | rfl <;> rfl
theorem ins_len (code : List PIns) : ∀ e ∈ code.map insC,e.length = 4 := by
  intro e he; obtain ⟨q,_,rfl⟩ := List.mem_map.1 he; rfl
theorem pgV_ok {code : List PIns} {starts : List Int} (h : ∀ i ∈ code,InsV i) (h1 : code.length <= 1048576) (h2 : starts.length <= 1048576) : (pgV code starts).ok := by
  refine ⟨SlD.frozen (ins_len code) (insV_plain h),intsV_sl _,fun i hi => ?_,h1,h2⟩
  obtain ⟨h3,h4⟩ := h i hi
  refine ⟨?_,h4⟩
  rw [h3]
  exact SlD.frozen (range_len _) (range_plain _)
theorem repC_v {c : Nat -> List PIns} {z : Nat} (hc : ∀ b, ∀ i ∈ c b,InsV i) : ∀ k b, ∀ i ∈ repC c z k b,InsV i
  | 0,b,i,hi => by cases hi
  | k + 1,b,i,hi => by
    simp only [repC] at hi
    rcases List.mem_append.1 hi with hi | hi
    · exact hc b i hi
    · exact repC_v hc k _ i hi
theorem optC_v {sp : Nat -> PIns} {c : Nat -> List PIns} {z : Nat} (hs : ∀ s,InsV (sp s)) (hc : ∀ b, ∀ i ∈ c b,InsV i) : ∀ k b, ∀ i ∈ optC sp c z k b,InsV i
  | 0,b,i,hi => by cases hi
  | k + 1,b,i,hi => by
    simp only [optC] at hi
    rcases List.mem_cons.1 hi with rfl | hi
    · exact hs _
    · rcases List.mem_append.1 hi with hi | hi
      · exact hc _ i hi
      · exact optC_v hs hc k _ i hi
mutual
theorem codeT_v : ∀ (t : Tr) (b : Nat),(∀ n ∈ t.flat,n.rs.length <= 1048576) -> ∀ i ∈ codeT t b,InsV i
  | .mk n ks,b,h,i,hi => by
    simp only [Tr.flat] at h
    have hn := h n (List.mem_cons_self ..)
    have hk : ∀ n ∈ ks.flat,n.rs.length <= 1048576 := fun m hm => h m (List.mem_cons_of_mem _ hm)
    have hc := fun b => catT_v ks b hk
    have ha := fun jp (hj : InsV jp) b => altT_v jp hj ks b hk
    simp only [codeT] at hi
    split at hi
    · simp only [List.mem_cons,List.not_mem_nil,or_false] at hi; subst hi; exact mkI_r _ _ _ hn
    split at hi
    · simp only [List.mem_cons,List.not_mem_nil,or_false] at hi; subst hi; exact mkI_v _ _ _
    split at hi
    · simp only [List.mem_cons,List.not_mem_nil,or_false] at hi; subst hi; exact mkI_v _ _ _
    split at hi
    · exact hc b i hi
    split at hi
    · exact ha _ (jpI_v _) b i hi
    split at hi
    · unfold rptC at hi
      split at hi
      · rcases List.mem_append.1 hi with hi | hi
        · exact repC_v hc _ _ i hi
        · rcases List.mem_cons.1 hi with rfl | hi
          · exact spI_v _ _ _
          · rcases List.mem_append.1 hi with hi | hi
            · exact hc _ i hi
            · simp only [List.mem_cons,List.not_mem_nil,or_false] at hi; subst hi; exact jpI_v _
      · rcases List.mem_append.1 hi with hi | hi
        · exact repC_v hc _ _ i hi
        · exact optC_v (fun s => spI_v _ _ _) hc _ _ i hi
    split at hi
    · rcases List.mem_cons.1 hi with rfl | hi
      · exact mkI_v _ _ _
      · rcases List.mem_append.1 hi with hi | hi
        · exact hc _ i hi
        · simp only [List.mem_cons,List.not_mem_nil,or_false] at hi; subst hi; exact mkI_v _ _ _
    · cases hi
theorem catT_v : ∀ (ts : Trs) (b : Nat),(∀ n ∈ ts.flat,n.rs.length <= 1048576) -> ∀ i ∈ catT ts b,InsV i
  | .nil,b,_,i,hi => by simp [catT] at hi
  | .cons t ts,b,h,i,hi => by
    simp only [Trs.flat] at h
    simp only [catT] at hi
    rcases List.mem_append.1 hi with hi | hi
    · exact codeT_v t b (fun n hn => h n (List.mem_append_left _ hn)) i hi
    · exact catT_v ts _ (fun n hn => h n (List.mem_append_right _ hn)) i hi
theorem altT_v (jp : PIns) (hj : InsV jp) : ∀ (ts : Trs) (b : Nat),(∀ n ∈ ts.flat,n.rs.length <= 1048576) -> ∀ i ∈ altT jp ts b,InsV i
  | .nil,b,_,i,hi => by simp [altT] at hi
  | .cons t ts,b,h,i,hi => by
    simp only [Trs.flat] at h
    have h1 : ∀ n ∈ t.flat,n.rs.length <= 1048576 := fun n hn => h n (List.mem_append_left _ hn)
    have h2 : ∀ n ∈ ts.flat,n.rs.length <= 1048576 := fun n hn => h n (List.mem_append_right _ hn)
    simp only [altT] at hi
    split at hi
    · exact codeT_v t b h1 i hi
    · rcases List.mem_cons.1 hi with rfl | hi
      · exact spI_v _ _ _
      · rcases List.mem_append.1 hi with hi | hi
        · exact codeT_v t _ h1 i hi
        · rcases List.mem_cons.1 hi with rfl | hi
          · exact hj
          · exact altT_v jp hj ts _ h2 i hi
end
theorem ruleC_v {t : Tr} {b r : Nat} (h : ∀ n ∈ t.flat,n.rs.length <= 1048576) : ∀ i ∈ ruleC t b r,InsV i := by
  intro i hi
  unfold ruleC at hi
  rcases List.mem_cons.1 hi with rfl | hi
  · exact mkI_v _ _ _
  · rcases List.mem_append.1 hi with hi | hi
    · exact codeT_v t _ h i hi
    · simp only [List.mem_cons,List.not_mem_nil,or_false] at hi
      rcases hi with rfl | rfl
      · exact mkI_v _ _ _
      · exact mkI_v _ _ _
def ixF_Qd (fr : Go.V.Fr) (k : Nat) : Go.V.D := Go.V.nth .junk fr.loc k
theorem plain_ev {s0 : St} {n : Nod} (hn : n.ok) : Ev pv 113 [.agg (nodC n)] s0 (.bool (plainN n)) s0 := by
 refine Ev.mk1 rfl fi113 rfl rfl rfl ?_;refine zE ?_;obtain ⟨hSb,hF,hH⟩ := ri s0;generalize enterSt .ro s0 = S at *;have hrd := hn.1.arg s0.bs.length S;have hrl := hn.2.1;refine zQ 2 ?_;refine qb hH fun k1 st hk1 hH => ?_;dsimp only [u2,u1,u3,u4,setMany,u5,u6,D.cells,Nat.reduceAdd,nodC] at hH;refine zQ 10 ?_;refine EvC.cutL 2 (.bool (((n.op == 2) || ((n.rs.length : Nat) : Int) == 0) && ((n.op == 5) || ((n.mn == 0) && (n.mx == 0) && !n.lz)) && ((n.op == 6) || (n.cap == 0)))) [] ?_ (fun ff tmp => ?_)
 ·refine zQ 4 ?_;refine EvO.two 10 rfl (fun hg3 => ?_) (fun hg3 => ?_)
  ·refine zQ 8 ?_;refine EvO.two 18 rfl (fun hg11 => ?_) (fun hg11 => ?_)
   ·refine zQ 20 ?_;refine EvO.two 38 rfl (fun hg31 => ?_) (fun hg31 => ?_)
    ·refine zQ 6 ?_;refine EvO.nil (leafL ?_);refine zG ?_
     all_goals (simp [hg3,hg11,hg31]; done)
    ·refine zQ 6 ?_;refine EvO.nil (leafL ?_);refine zG ?_
     all_goals (simp [hg3,hg11,hg31]; done)
   ·refine zQ 4 ?_;refine EvO.two 22 rfl (fun hg15 => ?_) (fun hg15 => ?_)
    ·refine zQ 3 ?_;refine EvO.pickT (wantD_is rfl rfl rfl hg11) rfl hg15 (put_T rfl _) ?_;refine zQ 1 ?_;refine EvO.two 27 rfl (fun hg20 => ?_) (fun hg20 => ?_)
     ·refine zQ 3 ?_;refine EvO.pickT (wantD_is rfl rfl rfl hg11) rfl hg20 (put_T rfl _) ?_;refine zQ 3 ?_;refine EvO.two 34 rfl (fun hg27 => ?_) (fun hg27 => ?_)
      ·refine zQ 4 ?_;refine EvO.two 38 rfl (fun hg31 => ?_) (fun hg31 => ?_)
       ·refine zQ 3 ?_;refine EvO.pickT (wantD_is rfl rfl rfl hg27) rfl hg31 (put_T rfl _) ?_;refine zQ 2 ?_;refine EvO.nil (leafL ?_);refine zG ?_
        all_goals (simp [hg3,hg11,hg15,hg20,hg27,hg31]; done)
       ·refine zQ 3 ?_;refine EvO.pickF (wantD_is rfl rfl rfl hg27) rfl hg31 (put_T rfl _) ?_;refine zQ 2 ?_;refine EvO.nil (leafL ?_);refine zG ?_
        all_goals (simp [hg3,hg11,hg15,hg20,hg27,hg31]; done)
      ·refine zQ 10 ?_;refine EvO.nil (leafL ?_);refine zG ?_
       all_goals (simp [hg3,hg11,hg15,hg20,hg27]; done)
     ·refine zQ 3 ?_;refine EvO.pickF (wantD_is rfl rfl rfl hg11) rfl hg20 (put_T rfl _) ?_;refine zQ 13 ?_;refine EvO.nil (leafL ?_);refine zG ?_
      all_goals (simp [hg3,hg11,hg15,hg20]; done)
    ·refine zQ 3 ?_;refine EvO.pickF (wantD_is rfl rfl rfl hg11) rfl hg15 (put_T rfl _) ?_;refine zQ 18 ?_;refine EvO.nil (leafL ?_);refine zG ?_
     all_goals (simp [hg3,hg11,hg15]; done)
  ·refine zQ 2 ?_;refine qn ?_ (hg := wi hg3);simp only [List.length_map];refine zQ 3 ?_;refine EvO.two 16 rfl (fun hg9 => ?_) (fun hg9 => ?_)
   ·refine zQ 2 ?_;refine EvO.two 18 rfl (fun hg11 => ?_) (fun hg11 => ?_)
    ·refine zQ 13 ?_;refine EvO.pickT (wantD_is rfl rfl rfl hg9) rfl hg11 (put_T rfl _) ?_;refine zQ 6 ?_;refine EvO.two 38 rfl (fun hg31 => ?_) (fun hg31 => ?_)
     ·refine zQ 6 ?_;refine EvO.nil (leafL ?_);refine zG ?_
      all_goals (simp [hg3,hg9,hg11,hg31]; done)
     ·refine zQ 6 ?_;refine EvO.nil (leafL ?_);refine zG ?_
      all_goals (simp [hg3,hg9,hg11,hg31]; done)
    ·refine zQ 4 ?_;refine EvO.two 22 rfl (fun hg15 => ?_) (fun hg15 => ?_)
     ·refine zQ 3 ?_;refine EvO.pickT (wantD_is rfl rfl rfl hg11) rfl hg15 (put_T rfl _) ?_;refine zQ 1 ?_;refine EvO.two 27 rfl (fun hg20 => ?_) (fun hg20 => ?_)
      ·refine zQ 3 ?_;refine EvO.pickT (wantD_is rfl rfl rfl hg11) rfl hg20 (put_T rfl _) ?_;refine EvO.pickF (wantD_is rfl rfl rfl hg9) rfl hg11 (put_T rfl _) ?_;refine zQ 2 ?_;refine EvO.two 34 rfl (fun hg27 => ?_) (fun hg27 => ?_)
       ·refine zQ 4 ?_;refine EvO.two 38 rfl (fun hg31 => ?_) (fun hg31 => ?_)
        ·refine zQ 3 ?_;refine EvO.pickT (wantD_is rfl rfl rfl hg27) rfl hg31 (put_T rfl _) ?_;refine zQ 2 ?_;refine EvO.nil (leafL ?_);refine zG ?_
         all_goals (simp [hg3,hg9,hg11,hg15,hg20,hg27,hg31]; done)
        ·refine zQ 3 ?_;refine EvO.pickF (wantD_is rfl rfl rfl hg27) rfl hg31 (put_T rfl _) ?_;refine zQ 2 ?_;refine EvO.nil (leafL ?_);refine zG ?_
         all_goals (simp [hg3,hg9,hg11,hg15,hg20,hg27,hg31]; done)
       ·refine zQ 10 ?_;refine EvO.nil (leafL ?_);refine zG ?_
        all_goals (simp [hg3,hg9,hg11,hg15,hg20,hg27]; done)
      ·refine zQ 3 ?_;refine EvO.pickF (wantD_is rfl rfl rfl hg11) rfl hg20 (put_T rfl _) ?_;refine EvO.pickF (wantD_is rfl rfl rfl hg9) rfl hg11 (put_T rfl _) ?_;refine zQ 12 ?_;refine EvO.nil (leafL ?_);refine zG ?_
       all_goals (simp [hg3,hg9,hg11,hg15,hg20]; done)
     ·refine zQ 3 ?_;refine EvO.pickF (wantD_is rfl rfl rfl hg11) rfl hg15 (put_T rfl _) ?_;refine zQ 5 ?_;refine EvO.pickF (wantD_is rfl rfl rfl hg9) rfl hg11 (put_T rfl _) ?_;refine zQ 12 ?_;refine EvO.nil (leafL ?_);refine zG ?_
      all_goals (simp [hg3,hg9,hg11,hg15]; done)
   ·refine zQ 28 ?_;refine EvO.nil (leafL ?_);refine zG ?_
    all_goals (simp [hg3,hg9]; done)
 dsimp only [setW,List.foldl,nth,u2,u1];refine EvC.ret ⟨rx,_,rfl,rl hSb hH (rfl)⟩
theorem shaped2_ev {s0 : St} {n : Nod} (hn : n.ok) {g : Nat} (hg : g <= 1048576) : Ev pv 100 [.agg (nodC n), .int .i64 (g : Nat)] s0 (.tup [.int .i64 (shapeN n (g : Nat)).1, .bool (shapeN n (g : Nat)).2]) s0 := by
 refine Ev.mk1 rfl fi100 rfl rfl rfl ?_;refine zE ?_;obtain ⟨hSb,hF,hH⟩ := ri s0;generalize enterSt .ro s0 = S at *;have hrd := hn.1.arg s0.bs.length S;have hrl := hn.2.1;refine zQ 2 ?_;refine qb hH fun k2 st hk2 hH => ?_;dsimp only [u2,u1,u3,u4,setMany,u5,u6,D.cells,Nat.reduceAdd,nodC] at hH;refine zQ 6 ?_;refine EvO.hloadS (m := 7) hH rfl (ev rfl) (by exact at0) (by dsimp only [List.drop_succ_cons,List.drop_zero,List.take_succ_cons,List.take_zero,nodC] <;> rfl) rfl rfl (by dsimp only [Fr.put,u1,u2] <;> rfl) ?_;refine qv (plain_ev hn) ?_;refine zQ 2 ?_;unfold shapeN
 cases hp : plainN n with
 | false =>
  rw [if_pos rfl];refine zQ 6 ?_;refine EvC.ret ⟨rx,_,rfl,rl hSb hH (rfl)⟩
 | true =>
  rw [if_neg (by simp)];refine zQ 15 ?_
  by_cases q1 : n.op = 1
  ·rw [if_pos (.inl q1)];refine qD rfl (by simp [q1]) ?_;refine zQ 1 ?_;refine qD rfl (by simp [q1]) ?_;refine zQ 8 ?_;refine EvC.ret ⟨rx,_,rfl,rl hSb hH (rfl)⟩
  refine qE rfl (by simp [q1]) ?_;refine zQ 5 ?_
  by_cases q7 : n.op = 7
  ·rw [if_pos (.inr (.inl q7))];refine qD rfl (by simp [q7]) ?_;refine zQ 1 ?_;refine qD rfl (by simp [q7]) ?_;refine zQ 8 ?_;refine EvC.ret ⟨rx,_,rfl,rl hSb hH (rfl)⟩
  refine qE rfl (by simp [q7]) ?_;refine zQ 4 ?_
  by_cases q8 : n.op = 8
  ·rw [if_pos (.inr (.inr q8))];refine qD rfl (by simp [q8]) ?_;refine zQ 8 ?_;refine EvC.ret ⟨rx,_,rfl,rl hSb hH (rfl)⟩
  refine qE rfl (by simp [q8]) ?_;rw [if_neg (by omega)];refine zQ 5 ?_;refine zI (fun q2 => ?_) fun q2 => ?_
  ·rw [if_pos q2];refine qq ?_;refine EvC.cutW [4,5] (fun ff => ff 4 = .int .i64 0 /\ ff 5 = .bool ((n.kids == 0) && rightS n.rs)) ?_ (fun ff tmp hff => ?_)
   ·refine zQ 4 ?_;refine EvO.two 23 rfl (fun hg3 => ?_) (fun hg3 => ?_)
    ·refine zQ 2 ?_;refine qv (right_ev (hrd.rows hH) hrl) ?_ (hg := wi hg3);refine zQ 3 ?_;refine EvO.nil (leafW ?_ ?_)
     ·dsimp only [setW,List.foldl,nth,u2,u1]
     ·dsimp only [nth];refine zF ?_;refine ⟨?_,?_⟩ <;> (first | rfl | (simp [hg3]; done) | (simp_all; done) | (simp [hg3]; omega) | (simp_all; omega))
    ·refine zQ 6 ?_;refine EvO.nil (leafW ?_ ?_)
     ·dsimp only [setW,List.foldl,nth,u2,u1]
     ·dsimp only [nth];refine zF ?_;refine ⟨?_,?_⟩ <;> (first | rfl | (simp [hg3]; done) | (simp_all; done) | (simp [hg3]; omega) | (simp_all; omega))
   dsimp only [setW,List.foldl,nth,u2,u1];obtain ⟨hff4,hff5⟩ := hff;rw [hff4,hff5];refine EvC.ret ⟨rx,_,rfl,rl hSb hH (rfl)⟩
  rw [if_neg q2];refine zQ 6 ?_
  by_cases q3 : n.op = 3
  ·rw [if_pos (.inl q3)];refine qD rfl (by simp [q3]) ?_;refine zQ 1 ?_;refine qD rfl (by simp [q3]) ?_;refine zQ 10 ?_;refine EvC.ret ⟨rx,_,rfl,rl hSb hH (rfl)⟩
  refine qE rfl (by simp [q3]) ?_;refine zQ 4 ?_
  by_cases q4 : n.op = 4
  ·rw [if_pos (.inr q4)];refine qD rfl (by simp [q4]) ?_;refine zQ 10 ?_;refine EvC.ret ⟨rx,_,rfl,rl hSb hH (rfl)⟩
  rw [if_neg (by omega)];refine qE rfl (by simp [q4]) ?_;refine zQ 5 ?_;refine zI (fun q5 => ?_) fun q5 => ?_
  ·rw [if_pos q5];refine qq ?_;refine EvC.cutW [4,5] (fun ff => ff 4 = .int .i64 1 /\ ff 5 = .bool ((n.kids == 1) && decide (n.mn >= 0) && decide (n.mn <= 30) && ((n.mx == -1) || (decide (n.mx >= n.mn) && decide (n.mx <= 30))))) ?_ (fun ff tmp hff => ?_)
   ·refine zQ 4 ?_;refine EvO.two 41 rfl (fun hg3 => ?_) (fun hg3 => ?_)
    ·refine zQ 5 ?_;refine EvO.two 46 rfl (fun hg8 => ?_) (fun hg8 => ?_)
     ·refine zQ 5 ?_;refine EvO.two 51 rfl (fun hg13 => ?_) (fun hg13 => ?_)
      ·refine zQ 4 ?_;refine EvO.two 55 rfl (fun hg17 => ?_) (fun hg17 => ?_)
       ·refine zQ 10 ?_;refine EvO.pickT (wantD_is rfl rfl rfl hg13) rfl hg17 (put_T rfl _) ?_;refine zQ 3 ?_;refine EvO.nil (leafW ?_ ?_)
        ·dsimp only [setW,List.foldl,nth,u2,u1]
        ·dsimp only [nth];refine zF ?_;refine ⟨?_,?_⟩ <;> (first | rfl | (simp [hg3,hg8,hg13,hg17]; done) | (simp_all; done) | (simp [hg3,hg8,hg13,hg17]; omega) | (simp_all; omega))
       ·refine zQ 6 ?_;refine EvO.two 61 rfl (fun hg23 => ?_) (fun hg23 => ?_)
        ·refine zQ 3 ?_;refine EvO.pickT (wantD_is rfl rfl rfl hg17) rfl hg23 (put_T rfl _) ?_;refine EvO.pickF (wantD_is rfl rfl rfl hg13) rfl hg17 (put_T rfl _) ?_;refine zQ 3 ?_;refine EvO.nil (leafW ?_ ?_)
         ·dsimp only [setW,List.foldl,nth,u2,u1]
         ·dsimp only [nth];refine zF ?_;refine ⟨?_,?_⟩ <;> (first | rfl | (simp [hg3,hg8,hg13,hg17,hg23]; done) | (simp_all; done) | (simp [hg3,hg8,hg13,hg17,hg23]; omega) | (simp_all; omega))
        ·refine zQ 3 ?_;refine EvO.pickF (wantD_is rfl rfl rfl hg17) rfl hg23 (put_T rfl _) ?_;refine EvO.pickF (wantD_is rfl rfl rfl hg13) rfl hg17 (put_T rfl _) ?_;refine zQ 3 ?_;refine EvO.nil (leafW ?_ ?_)
         ·dsimp only [setW,List.foldl,nth,u2,u1]
         ·dsimp only [nth];refine zF ?_;refine ⟨?_,?_⟩ <;> (first | rfl | (simp [hg3,hg8,hg13,hg17,hg23]; done) | (simp_all; done) | (simp [hg3,hg8,hg13,hg17,hg23]; omega) | (simp_all; omega))
      ·refine zQ 18 ?_;refine EvO.nil (leafW ?_ ?_)
       ·dsimp only [setW,List.foldl,nth,u2,u1]
       ·dsimp only [nth];refine zF ?_;refine ⟨?_,?_⟩ <;> (first | rfl | (simp [hg3,hg8,hg13]; done) | (simp_all; done) | (simp [hg3,hg8,hg13]; omega) | (simp_all; omega))
     ·refine zQ 23 ?_;refine EvO.nil (leafW ?_ ?_)
      ·dsimp only [setW,List.foldl,nth,u2,u1]
      ·dsimp only [nth];refine zF ?_;refine ⟨?_,?_⟩ <;> (first | rfl | (simp [hg3,hg8]; done) | (simp_all; done) | (simp [hg3,hg8]; omega) | (simp_all; omega))
    ·refine zQ 28 ?_;refine EvO.nil (leafW ?_ ?_)
     ·dsimp only [setW,List.foldl,nth,u2,u1]
     ·dsimp only [nth];refine zF ?_;refine ⟨?_,?_⟩ <;> (first | rfl | (simp [hg3]; done) | (simp_all; done) | (simp [hg3]; omega) | (simp_all; omega))
   dsimp only [setW,List.foldl,nth,u2,u1];obtain ⟨hff4,hff5⟩ := hff;rw [hff4,hff5];refine EvC.ret ⟨rx,_,rfl,rl hSb hH (rfl)⟩
  rw [if_neg q5];refine zQ 5 ?_;refine zI (fun q6 => ?_) fun q6 => ?_
  ·rw [if_pos q6];refine qq ?_;refine EvC.cutW [4,5] (fun ff => ff 4 = .int .i64 1 /\ ff 5 = .bool ((n.kids == 1) && (n.cap == ((g + 1 : Nat) : Int)) && decide (n.cap <= 4))) ?_ (fun ff tmp hff => ?_)
   ·refine zQ 4 ?_;refine EvO.two 73 rfl (fun hg3 => ?_) (fun hg3 => ?_)
    ·refine zQ 7 ?_;refine EvO.two 80 rfl (fun hg10 => ?_) (fun hg10 => ?_)
     ·refine zQ 6 ?_;refine EvO.nil (leafW ?_ ?_)
      ·dsimp only [setW,List.foldl,nth,u2,u1]
      ·dsimp only [nth];refine zF ?_;refine ⟨?_,?_⟩ <;> (first | rfl | (simp [hg3,hg10]; done) | (simp_all; done) | (simp [hg3,hg10]; omega) | (simp_all; omega))
     ·refine zQ 6 ?_;refine EvO.nil (leafW ?_ ?_)
      ·dsimp only [setW,List.foldl,nth,u2,u1]
      ·dsimp only [nth];refine zF ?_;refine ⟨?_,?_⟩ <;> (first | rfl | (simp [hg3,hg10]; done) | (simp_all; done) | (simp [hg3,hg10]; omega) | (simp_all; omega))
    ·refine zQ 13 ?_;refine EvO.nil (leafW ?_ ?_)
     ·dsimp only [setW,List.foldl,nth,u2,u1]
     ·dsimp only [nth];refine zF ?_;refine ⟨?_,?_⟩ <;> (first | rfl | (simp [hg3]; done) | (simp_all; done) | (simp [hg3]; omega) | (simp_all; omega))
   dsimp only [setW,List.foldl,nth,u2,u1];obtain ⟨hff4,hff5⟩ := hff;rw [hff4,hff5];refine EvC.ret ⟨rx,_,rfl,rl hSb hH (rfl)⟩
  ·rw [if_neg q6];refine zQ 6 ?_;refine EvC.ret ⟨rx,_,rfl,rl hSb hH (rfl)⟩
theorem nod_refs {n : Nod} (h : n.ok) : refs (nodC n) = 0 := by
 have := h.1.ref;simp only [nodC,refs,D.ref,this,Nat.max_self]
def walkC (d : D) (at_ g : Nat) : List D := [d, .int .i64 (at_ : Nat), .int .i64 (g : Nat)]
theorem one_ev {l : List Nod} {d : D} (hl : l.length <= 1048576) (hi : ∀ n ∈ l,n.ok) (hd : SlD d 7 (l.map nodC)) : ∀ (f : Nat) {N k : Nat} {S s0 : St} {H : List Ent} {at_ g : Nat},f <= 241 -> g <= 4 -> Has N S s0 (.box k (.mem 0 false (walkC d at_ g)) :: H) ->
  ∃ r st',Ev pv 74 [.ptr k 0 0, .int .i64 ((241 - f : Nat) : Int)] s0 r st' /\ r = .bool (oneW l f at_ g).isSome /\ ∃ a' g',Has N S st' (.box k (.mem 0 false (walkC d a' g')) :: H) /\ g' <= 4 /\ ∀ q,oneW l f at_ g = some q -> a' = q.1 /\ g' = q.2 := by
 intro f
 induction f with
 | zero =>
  intro N k S s0 H at_ g hf hg hH;refine Ev.mkE rfl fi74 rfl rfl rfl ?_;refine zE ?_;have hH0 := hH;have hH := hH.enterRw;have hS2 : (enterSt .rw s0).bs = s0.bs := rfl;generalize enterSt .rw s0 = S2 at *;have hc := hd.arg N S2;refine zQ 6 ?_;refine EvC.cutT 21 (.bool (decide ((at_ : Int) >= (l.length : Nat)) || decide (((241 - 0 : Nat) : Int) > 240))) [] ?_ (fun ff tmp htmp => ?_)
  ·refine zQ 8 ?_;refine qn ?_;simp only [List.length_map];refine zQ 2 ?_;refine EvO.two 18 rfl (fun hg10 => ?_) (fun hg10 => ?_)
   ·refine zQ 3 ?_;refine EvO.nil (leafT ?_ ?_)
    ·dsimp only [setW,List.foldl,nth,u2,u1]
     all_goals (first | rfl | simp)
    ·refine zF ?_
     all_goals (simp [hg10]; done)
   ·refine zQ 3 ?_;refine EvO.nil (leafT ?_ ?_)
    ·dsimp only [setW,List.foldl,nth,u2,u1]
     all_goals (first | rfl | simp)
    ·refine zF ?_
     all_goals (simp [hg10]; done)
  dsimp only [setW,List.foldl,nth,u2,u1];have hT : (decide ((at_ : Int) >= (l.length : Nat)) || decide (((241 - 0 : Nat) : Int) > 240)) = true := by simp
  rw [hT] at htmp;refine zQ 5 ?_;refine EvC.ret ⟨rx,_,_,_,rfl,leaveD_rw (rfl),?_⟩;exact ⟨rfl,_,_,hH0.leaveRw1 hS2 hH,hg,fun q hq => by simp [oneW] at hq⟩
 | succ f ih =>
  intro N k S s0 H at_ g hf hg hH;refine Ev.mkE rfl fi74 rfl rfl rfl ?_;refine zE ?_;have hH0 := hH;have hH := hH.enterRw;have hS2 : (enterSt .rw s0).bs = s0.bs := rfl;generalize enterSt .rw s0 = S2 at *;have hc := hd.arg N S2;refine zQ 6 ?_;refine EvC.cutT 21 (.bool (decide ((at_ : Int) >= (l.length : Nat)) || decide (((241 - (f + 1) : Nat) : Int) > 240))) [] ?_ (fun ff tmp htmp => ?_)
  ·refine zQ 8 ?_;refine qn ?_;simp only [List.length_map];refine zQ 2 ?_;refine EvO.two 18 rfl (fun hg10 => ?_) (fun hg10 => ?_)
   ·refine zQ 3 ?_;refine EvO.nil (leafT ?_ ?_)
    ·dsimp only [setW,List.foldl,nth,u2,u1]
     all_goals (first | rfl | simp)
    ·refine zF ?_
     all_goals (simp_all; done)
   ·refine zQ 3 ?_;refine EvO.nil (leafT ?_ ?_)
    ·dsimp only [setW,List.foldl,nth,u2,u1]
     all_goals (first | rfl | simp)
    ·refine zF ?_
     all_goals (simp_all; omega)
  dsimp only [setW,List.foldl,nth,u2,u1]
  by_cases ha : l.length <= at_
  ·have hT : (decide ((at_ : Int) >= (l.length : Nat)) || decide (((241 - (f + 1) : Nat) : Int) > 240)) = true := by
    rw [Bool.or_eq_true]; exact .inl (by rw [decide_eq_true_eq]; omega)
   rw [hT] at htmp;have hn : oneW l (f + 1) at_ g = none := by unfold oneW; rw [List.getElem?_eq_none ha]
   rw [hn];refine zQ 5 ?_;refine EvC.ret ⟨rx,_,_,_,rfl,leaveD_rw (rfl),?_⟩;exact ⟨rfl,_,_,hH0.leaveRw1 hS2 hH,hg,fun q hq => by cases hq⟩
  ·have hT : (decide ((at_ : Int) >= (l.length : Nat)) || decide (((241 - (f + 1) : Nat) : Int) > 240)) = false := by
    rw [Bool.or_eq_false_iff]; exact ⟨by rw [decide_eq_false_iff_not]; omega,by rw [decide_eq_false_iff_not]; omega⟩
   rw [hT] at htmp
   obtain ⟨n,hn⟩ : ∃ n,l[at_]? = some n := ⟨l[at_]'(by omega),List.getElem?_eq_getElem _⟩
   have hno := hi n (List.mem_of_getElem? hn);have hr1 := nod_get hn;have hrf := nod_refs hno
   have hone : oneW l (f + 1) at_ g = if (shapeN n (g : Nat)).2 = true then kidsS (oneW l f) (shapeN n (g : Nat)).1.toNat (at_ + 1) (if n.op = 6 then g + 1 else g) else none := by
    rw [oneW,hn]
   rw [hone];clear hone;refine zQ 12 ?_;refine qr fun p30 hp30 => ?_;refine EvO.rloadS rfl (ev rfl) (by assumption) rfl (put_T rfl _) ?_;refine qa hH fun k5 st hk5 hH => ?_;dsimp only [u2,u1,u3,u4,setMany,u5,u6,D.cells,Nat.reduceAdd,walkC,nodC] at hH;refine EvO.hstoreA hH rfl (ev rfl) (ev rfl) (by rfl) (by exact rfl) (by exact at0) (by exact rfl) (by exact .inr (by assumption)) (fun st hH => ?_);dsimp only [u2,u1,u3,u4,setMany,u5,u6,D.cells,Nat.reduceAdd,walkC,nodC] at hH;refine zQ 3 ?_;refine EvO.hloadS (m := 7) hH rfl (ev rfl) (by exact at0) (by dsimp only [List.drop_succ_cons,List.drop_zero,List.take_succ_cons,List.take_zero,walkC,nodC] <;> rfl) rfl rfl (put_T rfl _) ?_;refine zQ 4 ?_;refine qv (shaped2_ev hno (by omega)) ?_;refine zQ 12 ?_
   cases hsh : (shapeN n (g : Nat)).2 with
   | false =>
    rw [if_neg (by simp)];refine zQ 5 ?_;refine EvC.ret ⟨rx,_,_,_,rfl,leaveD_rw (rfl),?_⟩;exact ⟨rfl,_,_,hH0.leaveRw1 hS2 (hH.drop 1),hg,fun q hq => by cases hq⟩
   | true =>
    rw [if_pos rfl];obtain ⟨⟨hk1,_⟩,hk2,hk3⟩ := shape_ok hsh;have hk4 := hno.2.2;obtain ⟨kd,hkd⟩ : ∃ kd : Nat,(shapeN n (g : Nat)).1 = (kd : Int) := Int.eq_ofNat_of_zero_le hk2;rw [hkd,Int.toNat_natCast];rw [hkd,Int.toNat_natCast] at hk1;refine zQ 11 ?_;refine qT hH at1 fun st hH => ?_;dsimp only [u2,u1,u3,u4,setMany,u5,u6,D.cells,Nat.reduceAdd,walkC,nodC] at hH;refine zQ 8 ?_;refine EvC.merge (fun fr st => ∃ (g2 : Nat) (tmp : List (Nat × D)),fr = ⟨8, [.ptr k 0 0, .int .i64 ((241 - (f + 1) : Nat) : Int),ixF_Qd fr 2,ixF_Qd fr 3, .bool false, .ptr k5 0 0, .int .i64 (kd : Nat), .bool true],tmp⟩ /\ Has N S2 st (.box k (.mem 0 false [d, .int .i64 ((at_ + 1 : Nat) : Int), .int .i64 (g2 : Nat)]) :: .box k5 (.mem 0 false (nodC n)) :: H) /\ (g2 = if n.op = 6 then g + 1 else g) /\ (g2 <= 4)) ?_ ?_
    ·refine zI (fun q6 => ?_) fun q6 => ?_
     ·have := hk3 q6;refine zQ 8 ?_;refine qT hH at1 fun st hH => ?_;dsimp only [u2,u1,u3,u4,setMany,u5,u6,D.cells,Nat.reduceAdd,walkC,nodC] at hH;refine zQ 1 ?_;exact ⟨g + 1,_,rfl,(by have := hH.front at1; exact this),by rw [if_pos q6],by omega⟩
     ·refine zQ 1 ?_;exact ⟨g,_,rfl,(by have := hH.front at1; exact this),by rw [if_neg q6],hg⟩
    ·rintro fr st ⟨g2,tmp,hfr,hH,hg2,hg3⟩;rw [hfr];clear hfr;generalize ixF_Qd fr = ee;clear fr;rw [<- hg2];refine zQ 2 ?_;refine EvC.loop (fun mm fr st => ∃ (kk a2 g4 : Nat),fr.clean = ⟨8, [.ptr k 0 0, .int .i64 ((241 - (f + 1) : Nat) : Int),ixF_Qd fr 2,ixF_Qd fr 3, .bool false, .ptr k5 0 0, .int .i64 (kk : Nat), .bool true], []⟩ /\ Has N S2 st (.box k (.mem 0 false [d, .int .i64 (a2 : Nat), .int .i64 (g4 : Nat)]) :: .box k5 (.mem 0 false (nodC n)) :: H) /\ (kidsS (oneW l f) kk a2 g4 = kidsS (oneW l f) kd (at_ + 1) g2) /\ (g4 <= 4) /\ (kk = mm) /\ (kk <= 9223372036854775807)) (kd) ?_ ?_
     ·exact ⟨kd,at_ + 1,g2,rfl,hH,rfl,hg3,rfl,by omega⟩
     rintro mm fr st ⟨kk,a2,g4,hfr,hH,hX,hg5,hmk,hkk⟩;rw [hfr];clear hfr;generalize ixF_Qd fr = ee;clear fr;refine zQ 6 ?_
     cases kk with
     | zero =>
      refine EvC.cond (v := false) (by dsimp only [Fr.ev,Fr.get,nth,V.look]; rfl) (fun h => by cases h) (fun _ => ?_);refine zQ 5 ?_;refine EvC.ret ⟨rx,_,_,_,rfl,leaveD_rw (rfl),?_⟩;exact ⟨by rw [<- hX]; rfl,_,_,hH0.leaveRw1 hS2 (hH.erase 1),hg5,fun q hq => by rw [<- hX] at hq; simp only [kidsS,Option.some.injEq] at hq; subst hq; exact ⟨rfl,rfl⟩⟩
     | succ kk =>
      rw [kidsS] at hX;refine qD rfl (by simp) ?_;refine zQ 7 ?_;refine EvO.addZ (z := ((241 - f : Nat) : Int)) rfl (ev rfl) (ev rfl) (by (try simp only [List.length_reverse,List.length_cons,List.length_nil,List.length_append,List.length_map,List.length_set]); rw [wrap_i64 (by omega) (by omega)] <;> omega) (put_T rfl _) ?_;obtain ⟨_,st,hev,rfl,a',g',hH,hg6,hq⟩ := ih (at_ := a2) (g := g4) (by omega) hg5 hH;refine qv hev ?_;refine zQ 2 ?_
      cases ho : oneW l f a2 g4 with
      | none =>
       rw [ho] at hX;refine zQ 5 ?_;refine EvC.ret ⟨rx,_,_,_,rfl,leaveD_rw (rfl),?_⟩;exact ⟨by rw [<- hX]; rfl,_,_,hH0.leaveRw1 hS2 (hH.erase 1),hg6,fun q hq => by rw [<- hX] at hq; cases hq⟩
      | some q =>
       rw [ho] at hX;obtain ⟨rfl,rfl⟩ := hq q ho;refine zQ 4 ?_;refine EvO.subZ (z := ((kk : Nat) : Int)) rfl (ev rfl) (ev rfl) (by (try simp only [List.length_reverse,List.length_cons,List.length_nil,List.length_append,List.length_map,List.length_set]); rw [wrap_i64 (by omega) (by omega)] <;> omega) (put_T rfl _) ?_;refine zQ 2 ?_;exact ⟨mm - 1,by omega,⟨kk,q.1,q.2,rfl,hH,hX,hg6,by omega,by omega⟩⟩
theorem rightL_ev {s0 : St} {x : Nl} (hx : x.ok) : Ev pv 40 [x.d] s0 (.bool (rightN x.l)) s0 := by
 refine Ev.mk1 rfl fi40 rfl rfl rfl ?_;refine zE ?_;obtain ⟨hSb,hF,hH⟩ := ri s0;generalize enterSt .ro s0 = S at *;have hc := hx.c.arg s0.bs.length S;have hl := hx.nl;have hcd := hx.c;refine zQ 6 ?_;refine EvC.cutT 11 (.bool (decide (((x.l.length : Nat) : Int) < 1) || decide (((x.l.length : Nat) : Int) > 480))) [] ?_ (fun ff tmp htmp => ?_)
 ·refine qm ?_;refine qn ?_;simp only [List.length_map];refine zQ 2 ?_;refine EvO.two 7 rfl (fun hg3 => ?_) (fun hg3 => ?_)
  ·refine zQ 4 ?_;refine EvO.nil (leafT ?_ ?_)
   ·dsimp only [setW,List.foldl,nth,u2,u1]
    all_goals (first | rfl | simp)
   ·refine zF ?_
    all_goals (simp [hg3]; done)
  ·refine zQ 1 ?_;refine qn ?_ (hg := wi hg3);simp only [List.length_map];refine zQ 2 ?_;refine EvO.nil (leafT ?_ ?_)
   ·dsimp only [setW,List.foldl,nth,u2,u1]
    all_goals (first | rfl | simp)
   ·refine zF ?_
    all_goals (simp [hg3]; done)
 dsimp only [setW,List.foldl,nth,u2,u1]
 by_cases hlen : 1 <= x.l.length /\ x.l.length <= 480
 ·have hT : (decide (((x.l.length : Nat) : Int) < 1) || decide (((x.l.length : Nat) : Int) > 480)) = false := by
   rw [Bool.or_eq_false_iff]; exact ⟨by rw [decide_eq_false_iff_not]; omega,by rw [decide_eq_false_iff_not]; omega⟩
  rw [hT] at htmp
  have hR : rightN x.l = (match oneW x.l 241 0 0 with | some r => decide (r.1 = x.l.length) | none => false) := by
   unfold rightN; rw [decide_eq_true hlen.1,decide_eq_true hlen.2]; rfl
  rw [hR];clear hR;refine zQ 5 ?_;refine EvO.ones (qs := [(0,_)]) rfl rfl rfl rfl ⟨rfl,(ev rfl),(by exact (SlD.cells (by assumption)).1),trivial⟩ (by intro q hq; simp only [List.mem_cons,List.not_mem_nil,or_false] at hq; rcases hq with rfl <;> exact ⟨rfl,by exact Nat.le_of_ble_eq_true rfl⟩) (by show List.foldl _ [_,_,_] _ = _; dsimp only [List.foldl_cons,List.foldl_nil,u2,u1] <;> rfl) (put_T rfl _) ?_;refine qb hH fun k14 st hk14 hH => ?_;refine zQ 2 ?_;have hH : Has s0.bs.length S st (.box k14 (.mem 0 false (walkC x.d 0 0)) :: []) := hH
  cases hg2 : (oneW x.l 241 0 0).isSome with
  | true =>
   obtain ⟨q,hq⟩ := Option.isSome_iff_exists.1 hg2;refine zQ 3 ?_;obtain ⟨_,st,hev,rfl,a',g',hH,hg6,hqq⟩ := one_ev hl hx.i hx.c 241 (by omega) (by omega) hH;refine qv hev ?_;refine zQ 6 ?_;refine qn ?_ (hg := wi hg2);simp only [List.length_map];refine zQ 4 ?_;obtain ⟨rfl,rfl⟩ := hqq q hq;rw [hq]
   have he : decide (q.1 = x.l.length) = (((q.1 : Nat) : Int) == ((x.l.length : Nat) : Int)) := by
    rw [Bool.eq_iff_iff]; simp only [decide_eq_true_eq,beq_iff_eq]; omega
   simp only [he];refine EvC.ret ⟨rx,_,rfl,rl hSb hH (rfl)⟩
  | false =>
   have hq : oneW x.l 241 0 0 = none := by
    cases hq : oneW x.l 241 0 0 with
    | none => rfl
    | some q => rw [hq] at hg2; cases hg2
   refine zQ 3 ?_;obtain ⟨_,st,hev,rfl,a',g',hH,hg6,hqq⟩ := one_ev hl hx.i hx.c 241 (by omega) (by omega) hH;refine qv hev ?_;refine zQ 11 ?_;rw [hq];refine EvC.ret ⟨rx,_,rfl,rl hSb hH (rfl)⟩
 ·have hT : (decide (((x.l.length : Nat) : Int) < 1) || decide (((x.l.length : Nat) : Int) > 480)) = true := by
   rw [Bool.or_eq_true,decide_eq_true_eq,decide_eq_true_eq]; omega
  rw [hT] at htmp
  have hR : rightN x.l = false := by
   unfold rightN
   by_cases h1 : 1 <= x.l.length
   ·rw [decide_eq_true h1,decide_eq_false (fun h2 => hlen ⟨h1,h2⟩)]; rfl
   ·rw [decide_eq_false h1]; rfl
  rw [hR];refine zQ 5 ?_;refine EvC.ret ⟨rx,_,rfl,rl hSb hH (rfl)⟩
def ixF_Qe (fr : Go.V.Fr) (k : Nat) : Go.V.D := Go.V.nth .junk fr.loc k
def spl (es : List Int) (a : Nat) (M : List Int) : List Int := es.take a ++ M ++ es.drop (a + M.length)
theorem spl_len {es M : List Int} {a : Nat} (h : a + M.length <= es.length) : (spl es a M).length = es.length := by
 unfold spl; simp only [List.length_append,List.length_take,List.length_drop]; omega
theorem spl_nil {es : List Int} {a : Nat} : spl es a [] = es := by
 unfold spl; simp
theorem spl_get {es M : List Int} {a : Nat} {x : Int} (h : a <= es.length) : (spl es a (x :: M))[a]? = some x := by
 unfold spl;rw [List.append_assoc,List.getElem?_append_right (by simp only [List.length_take]; omega)];simp [Nat.min_eq_left h]
theorem spl_spl {es M M' : List Int} {a : Nat} (h : a + M.length + M'.length <= es.length) : spl (spl es a M) (a + M.length) M' = spl es a (M ++ M') := by
 unfold spl;have h1 : (es.take a ++ M).length = a + M.length := by simp only [List.length_append,List.length_take]; omega
 rw [List.take_append_of_le_length (by omega),List.take_of_length_le (by omega)];rw [<- h1,List.drop_append,List.drop_eq_nil_of_le (by omega),List.nil_append,h1,List.drop_drop];simp only [List.append_assoc,List.length_append]
 congr 4
 omega
theorem spl_set {es M : List Int} {a : Nat} {v : Int} (h : a + 1 + M.length <= es.length) : (spl es (a + 1) M).set a v = spl es a (v :: M) := by
 unfold spl;have h1 : (es.take a).length = a := by simp only [List.length_take]; omega
 rw [List.append_assoc,List.take_add_one,List.getElem?_eq_getElem (by omega)];simp only [Option.toList_some,List.append_assoc,List.cons_append,List.nil_append,List.length_cons];rw [List.set_append_right _ _ (by omega),h1,Nat.sub_self,List.set_cons_zero]
 congr 4
 omega
theorem sizes_ev {l : List Nod} {d : D} (hl : l.length <= 1048576) (hi : ∀ n ∈ l,n.ok) (hd : SlD d 7 (l.map nodC)) : ∀ (m : Nat) (t : Tr),t.flat.length <= m -> t.ok -> ∀ {N : Nat} {S s0 : St} {H : List Ent} {out : D} {es : List Int} {at_ : Nat},Seg l at_ t.flat -> es.length = l.length -> Has N S s0 (.lst out 1 (es.map intC) :: H) ->
  ∃ r st',Ev pv 41 [d,out, .int .i64 (at_ : Nat)] s0 r st' /\ r = .int .i64 ((at_ + t.flat.length : Nat) : Int) /\ Has N S st' (.lst out 1 ((spl es at_ t.zs).map intC) :: H) := by
 intro m
 induction m with
 | zero => intro t h; have := t.flat_pos; omega
 | succ m ih =>
  rintro ⟨n,ks⟩ hm hok N S s0 H out es at_ hseg hel hH;simp only [Tr.ok] at hok;obtain ⟨hno,hks⟩ := hok;simp only [Tr.flat,List.length_cons] at hm;have hle := hseg.le (by simp [Tr.flat]);simp only [Tr.flat] at hseg hle;simp only [List.length_cons] at hle;have hn := hseg.head;have hseg := hseg.tail;have hnn := hi n (List.mem_of_getElem? hn);have hr1 := nod_get hn;have hrf := nod_refs hnn;have hkd := hno.1;have hfl := Trs.len_le ks;refine Ev.mkE rfl fi41 rfl rfl rfl ?_;refine zE ?_;have hH0 := hH;have hH := hH.enterRw;have hS2 : (enterSt .rw s0).bs = s0.bs := rfl;generalize enterSt .rw s0 = S2 at *;have hc := hd.arg N S2;refine zQ 8 ?_;refine qr fun p13 hp13 => ?_;refine EvO.rloadS rfl (ev rfl) (by assumption) rfl (by dsimp only [Fr.put,u1,u2] <;> rfl) ?_;refine qa hH fun k7 st hk7 hH => ?_;refine EvO.hstoreA hH rfl (ev rfl) (ev rfl) (by rfl) (by exact rfl) (by exact at0) (by exact rfl) (by exact .inr (by assumption)) (fun st hH => ?_);dsimp only [u2,u1,u3,u4,setMany,u5,u6,D.cells,Nat.reduceAdd,nodC,intC] at hH;refine zQ 19 ?_;refine EvC.loop (fun mm fr st => ∃ (i j ss : Nat) (rest : Trs) (es2 : List Int),fr.clean = ⟨36, [d,out, .int .i64 (at_ : Nat),ixF_Qe fr 3,ixF_Qe fr 4,ixF_Qe fr 5, .int .i64 0, .ptr k7 0 0, .int .i64 (j : Nat), .int .i64 ((min ss 401 : Nat) : Int),ixF_Qe fr 10,ixF_Qe fr 11,ixF_Qe fr 12,ixF_Qe fr 13,ixF_Qe fr 14,ixF_Qe fr 15,ixF_Qe fr 16,ixF_Qe fr 17, .int .i64 n.kids, .int .i64 (i : Nat),ixF_Qe fr 20,ixF_Qe fr 21,ixF_Qe fr 22,ixF_Qe fr 23,ixF_Qe fr 24,ixF_Qe fr 25,ixF_Qe fr 26,ixF_Qe fr 27,ixF_Qe fr 28,ixF_Qe fr 29,ixF_Qe fr 30,ixF_Qe fr 31,ixF_Qe fr 32,ixF_Qe fr 33,ixF_Qe fr 34,ixF_Qe fr 35], []⟩ /\ Has N S2 st (.lst out 1 (es2.map intC) :: .box k7 (.mem 0 false (nodC n)) :: H) /\ (mm = rest.len) /\ (i + rest.len = ks.len) /\ (Seg l j rest.flat) /\ (rest.ok) /\ (ss + rest.sz = ks.sz) /\ (es2.length = l.length) /\ (spl es2 j rest.zs = spl es (at_ + 1) ks.zs) /\ (j + rest.flat.length = at_ + 1 + ks.flat.length) /\ (rest.flat.length <= m)) (ks.len) ?_ ?_
  ·exact ⟨0,at_ + 1,0,ks,es,rfl,(by have := hH.front at1; exact this),rfl,by omega,hseg,hks,by omega,hel,rfl,rfl,by omega⟩
  rintro mm fr st ⟨i,j,ss,rest,es2,hfr,hH,hmm,hi2,hsg,hrok,hss,hel2,hspl,hj,hrm⟩;rw [hfr];clear hfr;generalize ixF_Qe fr = ee;clear fr;refine zQ 4 ?_
  cases rest with
  | nil =>
   simp only [Trs.len] at hi2;simp only [Trs.sz] at hss;simp only [Trs.flat,List.length_nil] at hj;simp only [Trs.zs,spl_nil] at hspl;have hcc : decide ((i : Int) < n.kids) = false := by rw [decide_eq_false_iff_not]; omega
   refine qq ?_;refine qE rfl (by rw [hcc]) ?_;refine zQ 1 ?_;obtain rfl : ss = ks.sz := by omega
   have hseg := hsg;refine zQ 6 ?_;refine EvC.merge (fun fr st => ∃  (tmp : List (Nat × D)),fr = ⟨36, [d,out, .int .i64 (at_ : Nat),ixF_Qe fr 3,ixF_Qe fr 4,ixF_Qe fr 5, .int .i64 0, .ptr k7 0 0, .int .i64 (j : Nat), .int .i64 ((nodSz n (min ks.sz 401) ks.len : Nat) : Int),ixF_Qe fr 10,ixF_Qe fr 11,ixF_Qe fr 12,ixF_Qe fr 13,ixF_Qe fr 14,ixF_Qe fr 15,ixF_Qe fr 16,ixF_Qe fr 17,ixF_Qe fr 18,ixF_Qe fr 19,ixF_Qe fr 20,ixF_Qe fr 21,ixF_Qe fr 22,ixF_Qe fr 23,ixF_Qe fr 24,ixF_Qe fr 25,ixF_Qe fr 26,ixF_Qe fr 27,ixF_Qe fr 28,ixF_Qe fr 29,ixF_Qe fr 30,ixF_Qe fr 31,ixF_Qe fr 32,ixF_Qe fr 33,ixF_Qe fr 34,ixF_Qe fr 35],tmp⟩ /\ Has N S2 st (.lst out 1 (es2.map intC) :: .box k7 (.mem 0 false (nodC n)) :: H)) ?_ ?_
   ·refine zQ 7 ?_;generalize hw : min ks.sz 401 = w;have hwl : w <= 401 := by omega
    have hkl : ks.len <= 9223372036854775 -> True := fun _ => trivial
    by_cases q2 : n.op = 2
    ·have hz : nodSz n w ks.len = 1 := by unfold nodSz; rw [if_pos (.inl q2)]
     rw [hz];refine qD rfl (by simp [q2]) ?_;refine zQ 1 ?_;refine qD rfl (by simp [q2]) ?_;refine zQ 3 ?_;exact ⟨_,rfl,hH⟩
    refine qE rfl (by simp [q2]) ?_;refine zQ 5 ?_
    by_cases q7 : n.op = 7
    ·have hz : nodSz n w ks.len = 1 := by unfold nodSz; rw [if_pos (.inr (.inl q7))]
     rw [hz];refine qD rfl (by simp [q7]) ?_;refine zQ 1 ?_;refine qD rfl (by simp [q7]) ?_;refine zQ 3 ?_;exact ⟨_,rfl,hH⟩
    refine qE rfl (by simp [q7]) ?_;refine zQ 4 ?_
    by_cases q8 : n.op = 8
    ·have hz : nodSz n w ks.len = 1 := by unfold nodSz; rw [if_pos (.inr (.inr q8))]
     rw [hz];refine qD rfl (by simp [q8]) ?_;refine zQ 3 ?_;exact ⟨_,rfl,hH⟩
    refine qE rfl (by simp [q8]) ?_
    have hz0 : nodSz n w ks.len = if n.op = 4 then w + 2 * (ks.len - 1) else if n.op = 6 then w + 2 else if n.op = 5 then (if n.mx = -1 then n.mn.toNat * w + w + 2 else n.mn.toNat * w + (n.mx.toNat - n.mn.toNat) * (w + 1)) else w := by
     unfold nodSz; rw [if_neg (by omega)]
    rw [hz0];clear hz0;obtain ⟨_,hcs⟩ := hno;have hq : (n.op = 1 /\ ks.len = 0) \/ ((n.op = 3 \/ n.op = 4) /\ 2 <= ks.len) \/ (n.op = 5 /\ ks.len = 1 /\ 0 <= n.mn /\ n.mn <= 30 /\ (n.mx = -1 \/ (n.mn <= n.mx /\ n.mx <= 30))) \/ (n.op = 6 /\ ks.len = 1 /\ 1 <= n.cap /\ n.cap <= 4) := by omega
    refine zQ 5 ?_
    by_cases q4 : n.op = 4
    ·rw [if_pos q4];have hk2 : 2 <= ks.len := by omega
     refine qD rfl (by simp [q4]) ?_;refine zQ 4 ?_;refine EvO.subZ (z := ((ks.len - 1 : Nat) : Int)) rfl (ev rfl) (ev rfl) (by (try simp only [List.length_reverse,List.length_cons,List.length_nil,List.length_append,List.length_map,List.length_set]); rw [wrap_i64 (by omega) (by omega)] <;> omega) (put_T rfl _) ?_;refine EvO.mulZ (z := ((2 * (ks.len - 1) : Nat) : Int)) rfl (ev rfl) (ev rfl) (by (try simp only [List.length_reverse,List.length_cons,List.length_nil,List.length_append,List.length_map,List.length_set]); rw [wrap_i64 (by omega) (by omega)] <;> omega) (put_T rfl _) ?_;refine EvO.addZ (z := ((w + 2 * (ks.len - 1) : Nat) : Int)) rfl (ev rfl) (ev rfl) (by (try simp only [List.length_reverse,List.length_cons,List.length_nil,List.length_append,List.length_map,List.length_set]); rw [wrap_i64 (by omega) (by omega)] <;> omega) (put_T rfl _) ?_;refine zQ 2 ?_;exact ⟨_,rfl,hH⟩
    rw [if_neg q4];refine qE rfl (by simp [q4]) ?_;refine zQ 5 ?_
    by_cases q6 : n.op = 6
    ·rw [if_pos q6];refine qD rfl (by simp [q6]) ?_;refine zQ 5 ?_;exact ⟨_,rfl,hH⟩
    rw [if_neg q6];refine qE rfl (by simp [q6]) ?_;refine zQ 5 ?_
    by_cases q5 : n.op = 5
    ·rw [if_pos q5];refine qD rfl (by simp [q5]) ?_;refine zQ 6 ?_;have hmn : 0 <= n.mn /\ n.mn <= 30 /\ (n.mx = -1 \/ (n.mn <= n.mx /\ n.mx <= 30)) := by omega
     obtain ⟨a,ha⟩ : ∃ a : Nat,n.mn = (a : Int) := Int.eq_ofNat_of_zero_le hmn.1;have hta : n.mn.toNat = a := by omega
     have h1 : a * w <= 30 * 401 := Nat.mul_le_mul (by omega) hwl;have hmul : n.mn * (w : Int) = ((a * w : Nat) : Int) := by rw [ha]; push_cast; rfl
     rw [hta]
     by_cases qmx : n.mx = -1
     ·rw [if_pos qmx];refine qD rfl (by simp [qmx]) ?_;refine zQ 4 ?_;refine EvO.mulZ (z := ((a * w : Nat) : Int)) rfl (ev rfl) (ev rfl) (by (try simp only [List.length_reverse,List.length_cons,List.length_nil,List.length_append,List.length_map,List.length_set]); rw [wrap_i64 (by omega) (by omega)] <;> omega) (put_T rfl _) ?_;refine qm ?_;refine EvO.addZ (z := ((a * w + w : Nat) : Int)) rfl (ev rfl) (ev rfl) (by (try simp only [List.length_reverse,List.length_cons,List.length_nil,List.length_append,List.length_map,List.length_set]); rw [wrap_i64 (by omega) (by omega)] <;> omega) (put_T rfl _) ?_;refine EvO.addZ (z := ((a * w + w + 2 : Nat) : Int)) rfl (ev rfl) (ev rfl) (by (try simp only [List.length_reverse,List.length_cons,List.length_nil,List.length_append,List.length_map,List.length_set]); rw [wrap_i64 (by omega) (by omega)] <;> omega) (put_T rfl _) ?_;refine zQ 2 ?_;exact ⟨_,rfl,hH⟩
     ·rw [if_neg qmx];obtain ⟨b,hb⟩ : ∃ b : Nat,n.mx = (b : Int) := Int.eq_ofNat_of_zero_le (by omega);have htb : n.mx.toNat = b := by omega
      have h2 : (b - a) * (w + 1) <= 30 * 402 := Nat.mul_le_mul (by omega) (by omega);rw [htb];refine qE rfl (by simp [qmx]) ?_;refine zQ 4 ?_;refine EvO.mulZ (z := ((a * w : Nat) : Int)) rfl (ev rfl) (ev rfl) (by (try simp only [List.length_reverse,List.length_cons,List.length_nil,List.length_append,List.length_map,List.length_set]); rw [wrap_i64 (by omega) (by omega)] <;> omega) (put_T rfl _) ?_;refine zQ 4 ?_;refine EvO.subZ (z := ((b - a : Nat) : Int)) rfl (ev rfl) (ev rfl) (by (try simp only [List.length_reverse,List.length_cons,List.length_nil,List.length_append,List.length_map,List.length_set]); rw [wrap_i64 (by omega) (by omega)] <;> omega) (put_T rfl _) ?_;refine qm ?_;refine EvO.addZ (z := ((w + 1 : Nat) : Int)) rfl (ev rfl) (ev rfl) (by (try simp only [List.length_reverse,List.length_cons,List.length_nil,List.length_append,List.length_map,List.length_set]); rw [wrap_i64 (by omega) (by omega)] <;> omega) (put_T rfl _) ?_;refine EvO.mulZ (z := (((b - a) * (w + 1) : Nat) : Int)) rfl (ev rfl) (ev rfl) (by (try simp only [List.length_reverse,List.length_cons,List.length_nil,List.length_append,List.length_map,List.length_set]); rw [wrap_i64 (by omega) (by omega)] <;> omega) (put_T rfl _) ?_;refine EvO.addZ (z := ((a * w + (b - a) * (w + 1) : Nat) : Int)) rfl (ev rfl) (ev rfl) (by (try simp only [List.length_reverse,List.length_cons,List.length_nil,List.length_append,List.length_map,List.length_set]); rw [wrap_i64 (by omega) (by omega)] <;> omega) (put_T rfl _) ?_;refine zQ 2 ?_;exact ⟨_,rfl,hH⟩
    ·rw [if_neg q5];refine qE rfl (by simp [q5]) ?_;refine zQ 1 ?_;exact ⟨_,rfl,hH⟩
   ·rintro fr st ⟨tmp,hfr,hH⟩;rw [hfr];clear hfr;generalize ixF_Qe fr = ee;clear fr;have hcap := cap_nod (n := n) (k := ks.len) (s := ks.sz);have hat : at_ < es2.length := by omega
    obtain ⟨w,hw⟩ : ∃ w,es2[at_]? = some w := ⟨es2[at_]'hat,List.getElem?_eq_getElem _⟩
    have hr9 := int_get hw;refine zQ 5 ?_;refine EvO.minZ (z := ((min (nodSz n ks.sz ks.len) 401 : Nat) : Int)) (t1 := _) (t2 := _) rfl (ev rfl) (ev rfl) (by omega) (put_T rfl _) ?_;refine qi hH at0 fun p81 hp81 => ?_;refine EvO.ostore hH rfl (ev rfl) (ev rfl) (by assumption) rfl rfl (by exact at0) (by assumption) (Nat.le_of_ble_eq_true rfl) (by exact .inr rfl) (fun st hH => ?_);dsimp only [u2,u1,u3,u4,setMany,u5,u6,D.cells,Nat.reduceAdd,nodC,intC] at hH;refine zQ 6 ?_;refine EvC.ret ⟨rx,_,_,_,rfl,leaveD_rw (rfl),?_⟩;have hje : j = at_ + (Tr.mk n ks).flat.length := by simp only [Tr.flat,List.length_cons]; omega
    refine ⟨by rw [hje]; rfl,?_⟩
    have hfin : spl es at_ (Tr.zs (.mk n ks)) = es2.set at_ ((min (nodSz n ks.sz ks.len) 401 : Nat) : Int) := by
     rw [hspl,spl_set (by rw [Trs.zs_len]; omega)]; rfl
    rw [hfin,List.map_set];exact hH0.leaveRwL hS2 (hH.erase 1)
  | cons t ts =>
   simp only [Trs.len] at hi2 hmm;simp only [Trs.sz] at hss;simp only [Trs.flat,List.length_append] at hj hsg hrm;simp only [Trs.zs] at hspl;simp only [Trs.ok] at hrok;have hcc : decide ((i : Int) < n.kids) = true := by rw [decide_eq_true_eq]; omega
   have htp := t.flat_pos;have htz := t.zs_len;have hzz := ts.zs_len;have hel3 : (spl es2 j t.zs).length = l.length := by rw [spl_len (by omega)]; exact hel2
   have hz8 : (spl es2 j t.zs)[j]? = some ((min t.sz 401 : Nat) : Int) := by
    obtain ⟨n',ks'⟩ := t;simp only [Tr.zs,Tr.sz];exact spl_get (by omega)
   have hr8 := int_get hz8;refine qq ?_;refine qD rfl (by rw [hcc]) ?_;refine zQ 13 ?_;obtain ⟨_,st,hev,rfl,hH⟩ := ih t (by omega) hrok.1 hsg.left hel2 hH;refine qv hev ?_;refine zQ 6 ?_;refine qi hH at0 fun p29 hp29 => ?_;refine zQ 1 ?_;refine EvO.addZ (z := ((min ss 401 + min t.sz 401 : Nat) : Int)) rfl (ev rfl) (ev rfl) (by (try simp only [List.length_reverse,List.length_cons,List.length_nil,List.length_append,List.length_map,List.length_set]); rw [wrap_i64 (by omega) (by omega)] <;> omega) (by dsimp only [Fr.put,u1,u2] <;> rfl) ?_;refine EvO.minZ (z := ((min (ss + t.sz) 401 : Nat) : Int)) (t1 := _) (t2 := _) rfl (ev rfl) (ev rfl) (by omega) (by dsimp only [Fr.put,u1,u2] <;> rfl) ?_;refine zQ 6 ?_;exact ⟨mm - 1,by omega,⟨i + 1,j + t.flat.length,ss + t.sz,ts,spl es2 j t.zs,rfl,hH,by omega,by omega,hsg.right,hrok.2,by omega,hel3,by rw [<- hspl]; have := spl_spl (es := es2) (a := j) (M := t.zs) (M' := ts.zs) (by omega); rw [htz] at this; exact this,by omega,by omega⟩⟩
theorem ends_ev {l : List Nod} {d : D} (hl : l.length <= 1048576) (hi : ∀ n ∈ l,n.ok) (hd : SlD d 7 (l.map nodC)) : ∀ (m : Nat) (t : Tr),t.flat.length <= m -> t.ok -> ∀ {N : Nat} {S s0 : St} {H : List Ent} {out : D} {es : List Int} {at_ : Nat},Seg l at_ t.flat -> es.length = l.length -> Has N S s0 (.lst out 1 (es.map intC) :: H) ->
  ∃ r st',Ev pv 42 [d,out, .int .i64 (at_ : Nat)] s0 r st' /\ r = .int .i64 ((at_ + t.flat.length : Nat) : Int) /\ Has N S st' (.lst out 1 ((spl es at_ (t.es at_)).map intC) :: H) := by
 intro m
 induction m with
 | zero => intro t h; have := t.flat_pos; omega
 | succ m ih =>
  rintro ⟨n,ks⟩ hm hok N S s0 H out es at_ hseg hel hH;simp only [Tr.ok] at hok;obtain ⟨hno,hks⟩ := hok;simp only [Tr.flat,List.length_cons] at hm;have hle := hseg.le (by simp [Tr.flat]);simp only [Tr.flat] at hseg hle;simp only [List.length_cons] at hle;have hn := hseg.head;have hseg := hseg.tail;have hnn := hi n (List.mem_of_getElem? hn);have hr1 := nod_get hn;have hkd := hno.1;have hfl := Trs.len_le ks;refine Ev.mkE rfl fi42 rfl rfl rfl ?_;refine zE ?_;have hH0 := hH;have hH := hH.enterRw;have hS2 : (enterSt .rw s0).bs = s0.bs := rfl;generalize enterSt .rw s0 = S2 at *;have hc := hd.arg N S2;refine zQ 15 ?_;refine qr fun p12 hp12 => ?_;refine qf (fo := 6) fun p13 hp13 => ?_;refine zQ 4 ?_;refine EvC.loop (fun mm fr st => ∃ (i j : Nat) (rest : Trs) (es2 : List Int),fr.clean = ⟨16, [d,out, .int .i64 (at_ : Nat),ixF_Qe fr 3,ixF_Qe fr 4,ixF_Qe fr 5, .int .i64 0, .int .i64 (j : Nat),ixF_Qe fr 8,ixF_Qe fr 9,ixF_Qe fr 10,ixF_Qe fr 11,ixF_Qe fr 12,ixF_Qe fr 13, .int .i64 n.kids, .int .i64 (i : Nat)], []⟩ /\ Has N S2 st (.lst out 1 (es2.map intC) :: H) /\ (mm = rest.len) /\ (i + rest.len = ks.len) /\ (Seg l j rest.flat) /\ (rest.ok) /\ (es2.length = l.length) /\ (spl es2 j (rest.es j) = spl es (at_ + 1) (ks.es (at_ + 1))) /\ (j + rest.flat.length = at_ + 1 + ks.flat.length) /\ (rest.flat.length <= m)) (ks.len) ?_ ?_
  ·exact ⟨0,at_ + 1,ks,es,rfl,hH,rfl,by omega,hseg,hks,hel,rfl,rfl,by omega⟩
  rintro mm fr st ⟨i,j,rest,es2,hfr,hH,hmm,hi2,hsg,hrok,hel2,hspl,hj,hrm⟩;rw [hfr];clear hfr;generalize ixF_Qe fr = ee;clear fr;refine zQ 4 ?_
  cases rest with
  | nil =>
   simp only [Trs.len] at hi2;simp only [Trs.flat,List.length_nil] at hj;simp only [Trs.es,spl_nil] at hspl;have hcc : decide ((i : Int) < n.kids) = false := by rw [decide_eq_false_iff_not]; omega
   have hat : at_ < es2.length := by omega
   obtain ⟨w,hw⟩ : ∃ w,es2[at_]? = some w := ⟨es2[at_]'hat,List.getElem?_eq_getElem _⟩
   have hr9 := int_get hw;refine qq ?_;refine qE rfl (by rw [hcc]) ?_;refine zQ 6 ?_;refine qi hH at0 fun p25 hp25 => ?_;refine EvO.ostore hH rfl (ev rfl) (ev rfl) (by assumption) rfl rfl (by exact at0) (by assumption) (Nat.le_of_ble_eq_true rfl) (by exact .inr rfl) (fun st hH => ?_);dsimp only [u2,u1,u3,u4,setMany,u5,u6,D.cells,Nat.reduceAdd,nodC,intC] at hH;refine zQ 6 ?_;refine EvC.ret ⟨rx,_,_,_,rfl,leaveD_rw (rfl),?_⟩;have hje : j = at_ + (Tr.mk n ks).flat.length := by simp only [Tr.flat,List.length_cons]; omega
   refine ⟨by rw [hje]; rfl,?_⟩
   have hfin : spl es at_ (Tr.es (.mk n ks) at_) = es2.set at_ ((j : Nat) : Int) := by
    rw [hspl,spl_set (by rw [Trs.es_len]; omega)];have : j = at_ + 1 + ks.flat.length := by omega
    rw [this]; rfl
   rw [hfin,List.map_set];exact hH0.leaveRwL hS2 hH
  | cons t ts =>
   simp only [Trs.len] at hi2 hmm;simp only [Trs.flat,List.length_append] at hj hsg hrm;simp only [Trs.es] at hspl;simp only [Trs.ok] at hrok;have hcc : decide ((i : Int) < n.kids) = true := by rw [decide_eq_true_eq]; omega
   have htp := t.flat_pos;have htz := t.es_len j;have hzz := ts.es_len (j + t.flat.length);have hel3 : (spl es2 j (t.es j)).length = l.length := by rw [spl_len (by omega)]; exact hel2
   refine qq ?_;refine qD rfl (by rw [hcc]) ?_;refine zQ 7 ?_;obtain ⟨_,st,hev,rfl,hH⟩ := ih t (by omega) hrok.1 hsg.left hel2 hH;refine qv hev ?_;refine zQ 6 ?_;exact ⟨mm - 1,by omega,⟨i + 1,j + t.flat.length,ts,spl es2 j (t.es j),rfl,hH,by omega,by omega,hsg.right,hrok.2,hel3,by rw [<- hspl]; have := spl_spl (es := es2) (a := j) (M := t.es j) (M' := ts.es (j + t.flat.length)) (by omega); rw [htz] at this; exact this,by omega,by omega⟩⟩
theorem add_ev {N k : Nat} {S s0 : St} {H : List Ent} {ks : Nat -> Prop} {cd nd zd ed w : D} {code : List PIns} {op x y : Int} {rs : List Rg} (hF : S.flr <= N) (hl : code.length <= 1048576) (hH : Has N S s0 (.lst w 2 (rs.map rangeC) :: .box k (.mem 0 false [cd,nd,zd,ed]) :: .deep ks cd 4 (code.map insC) :: H)) :
  ∃ r st',Ev pv 43 [.ptr k 0 0, .agg [.int .i64 op, .int .i64 x, .int .i64 y,w]] s0 r st' /\ r = .int .i64 (code.length : Nat) /\ ∃ cd' ks',Has N S st' (.box k (.mem 0 false [cd',nd,zd,ed]) :: .deep ks' cd' 4 ((code ++ [mkI op x y rs]).map insC) :: H) := by
 refine Ev.mkE rfl fi43 rfl rfl rfl ?_;refine zE ?_;change EvC _ _ _ _ s0 _;refine zQ 2 ?_;refine qb hH fun k3 st hk3 hH => ?_;refine zQ 9 ?_;refine EvO.hloadS (m := 4) hH rfl (ev rfl) (by exact at0) (by dsimp only [List.drop_succ_cons,List.drop_zero,List.take_succ_cons,List.take_zero,insC] <;> rfl) rfl rfl (put_T rfl _) ?_;refine qh (s := 4) (vs := [_]) hH fun k11 st hk11 hH => ?_;obtain ⟨hH,hdc⟩ := hH.absorb (i := 2) (j := 4) (by decide) at2 at4 (range_plain _);dsimp only [u1,u2] at hH;refine EvO.dappend hH rfl (ev rfl) (ev rfl) at4 (hH.rows at0) (.cons (.cons (.plain _ rfl) (.cons (.plain _ rfl) (.cons (.plain _ rfl) (.cons hdc .nil)))) .nil) rfl rfl rfl rfl rfl rfl rfl ⟨(Nat.le_of_ble_eq_true rfl),(Nat.le_of_ble_eq_true rfl)⟩ (fun _ => (put_T rfl _)) (by simp only [List.length_map,List.length_cons,List.length_nil]; omega) (.inl hF) (fun x12 st hH => ?_);dsimp only [u1,u2] at hH;refine zQ 2 ?_;refine EvO.hstore hH rfl (ev rfl) (ev rfl) (by exact hH.dcells (by exact at4)) (by exact rfl) (by exact at3) (by exact Nat.le_of_ble_eq_true rfl) (by exact .inl hF) (fun st hH => ?_);dsimp only [u2,u1,u3,u4,setMany,u5,u6,D.cells,Nat.reduceAdd,insC] at hH;refine zQ 7 ?_;refine EvO.dlen hH rfl (ev rfl) (by exact at4) rfl (put_T rfl _) ?_;simp only [List.length_map,List.length_append,List.length_cons,List.length_nil];refine EvO.subZ (z := ((code.length : Nat) : Int)) rfl (ev rfl) (ev rfl) (by (try simp only [List.length_reverse,List.length_cons,List.length_nil,List.length_append,List.length_map,List.length_set]); rw [wrap_i64 (by omega) (by omega)] <;> omega) (put_T rfl _) ?_;refine zQ 2 ?_;refine EvC.ret ⟨rx,_,_,_,rfl,rfl,?_⟩;exact ⟨rfl,_,_,by rw [List.map_append]; exact hH.drop 3⟩
theorem split_ev {N k : Nat} {S s0 : St} {H : List Ent} {ks : Nat -> Prop} {cd nd zd ed : D} {code : List PIns} {at_ over : Nat} {lz : Bool} {x y : Int} (hat : code[at_]? = some (mkI 2 x y [])) (hl : code.length <= 1048576) (hH : Has N S s0 (.box k (.mem 0 false [cd,nd,zd,ed]) :: .deep ks cd 4 (code.map insC) :: H)) :
  ∃ r st',Ev pv 101 [.ptr k 0 0, .int .i64 (at_ : Nat), .int .i64 (over : Nat), .bool lz] s0 r st' /\ r = .tup [] /\ Has N S st' (.box k (.mem 0 false [cd,nd,zd,ed]) :: .deep ks cd 4 ((code.set at_ (spI at_ over lz)).map insC) :: H) := by
 have hlt := lt_get hat;have hr1 : (code.map insC)[at_]? = some [.int .i64 2, .int .i64 x, .int .i64 y, .sl []] := ins_get hat;have hfin : ∀ a b : List D,(code.map insC).set at_ a = (code.map insC).set at_ a := fun _ _ => rfl;refine Ev.mkE rfl fi101 rfl rfl rfl ?_;refine zE ?_;have hH0 := hH;have hH := hH.enterRw;have hS2 : (enterSt .rw s0).bs = s0.bs := rfl;generalize enterSt .rw s0 = S2 at *;refine zQ 13 ?_;refine EvO.addZ (z := ((at_ + 1 : Nat) : Int)) rfl (ev rfl) (ev rfl) (by (try simp only [List.length_reverse,List.length_cons,List.length_nil,List.length_append,List.length_map,List.length_set]); rw [wrap_i64 (by omega) (by omega)] <;> omega) (put_T rfl _) ?_;refine qm ?_;refine EvO.didx (s := 4) hH rfl (ev rfl) (ev rfl) (by exact at1) rfl rfl (by exact lt_get (by assumption)) (fun _ => (put_T rfl _)) (fun p21 hp21 => ?_);refine EvO.ofieldN (fo := 1) (m := 0) (o2 := 1) rfl (ev rfl) (by assumption) rfl rfl rfl (fun _ => (put_T rfl _)) (fun p22 hp22 => ?_);refine EvO.dstore hH rfl (ev rfl) (ev rfl) (by assumption) rfl rfl (by exact at1) (by assumption) (Nat.le_of_ble_eq_true rfl) (by intro d hd; simp only [List.mem_cons,List.not_mem_nil,or_false] at hd; subst hd; rfl) (by exact .inr rfl) (fun st hH => ?_);dsimp only [u2,u1,u3,u4,setMany,u5,u6,D.cells,Nat.reduceAdd,insC] at hH;refine EvO.didx (s := 4) hH rfl (ev rfl) (ev rfl) (by exact at1) rfl rfl (by simp only [List.length_map,List.length_set] <;> omega) (fun _ => (put_T rfl _)) (fun p23 hp23 => ?_);refine EvO.ofieldN (fo := 2) (m := 0) (o2 := 2) rfl (ev rfl) (by assumption) rfl rfl rfl (fun _ => (put_T rfl _)) (fun p24 hp24 => ?_);refine EvO.dstore hH rfl (ev rfl) (ev rfl) (by assumption) rfl rfl (by exact at1) (List.getElem?_set_self (by simp only [List.length_set,List.length_map]; omega)) (Nat.le_of_ble_eq_true rfl) (by intro d hd; simp only [List.mem_cons,List.not_mem_nil,or_false] at hd; subst hd; rfl) (by exact .inr rfl) (fun st hH => ?_);dsimp only [u1,u2,setMany] at hH;rw [List.set_set] at hH;refine zQ 5 ?_
 cases lz with
 | false =>
  refine zQ 2 ?_;refine ⟨fun i h => (by cases h),_,_,_,rfl,leaveD_rw rfl,?_⟩;exact ⟨rfl,by rw [List.map_set]; exact hH0.leaveRwD hS2 hH⟩
 | true =>
  refine zQ 14 ?_;refine EvO.addZ (z := ((at_ + 1 : Nat) : Int)) rfl (ev rfl) (ev rfl) (by (try simp only [List.length_reverse,List.length_cons,List.length_nil,List.length_append,List.length_map,List.length_set]); rw [wrap_i64 (by omega) (by omega)] <;> omega) (put_T rfl _) ?_;refine EvO.didx (s := 4) hH rfl (ev rfl) (ev rfl) (by exact at1) rfl rfl (by simp only [List.length_map,List.length_set] <;> omega) (fun _ => (put_T rfl _)) (fun p39 hp39 => ?_);refine EvO.ofieldN (fo := 1) (m := 0) (o2 := 1) rfl (ev rfl) (by assumption) rfl rfl rfl (fun _ => (put_T rfl _)) (fun p40 hp40 => ?_);refine EvO.dstore hH rfl (ev rfl) (ev rfl) (by assumption) rfl rfl (by exact at1) (List.getElem?_set_self (by simp only [List.length_set,List.length_map]; omega)) (Nat.le_of_ble_eq_true rfl) (by intro d hd; simp only [List.mem_cons,List.not_mem_nil,or_false] at hd; subst hd; rfl) (by exact .inr rfl) (fun st hH => ?_);dsimp only [u1,u2,setMany] at hH;rw [List.set_set] at hH;refine EvO.didx (s := 4) hH rfl (ev rfl) (ev rfl) (by exact at1) rfl rfl (by simp only [List.length_map,List.length_set] <;> omega) (fun _ => (put_T rfl _)) (fun p41 hp41 => ?_);refine EvO.ofieldN (fo := 2) (m := 0) (o2 := 2) rfl (ev rfl) (by assumption) rfl rfl rfl (fun _ => (put_T rfl _)) (fun p42 hp42 => ?_);refine EvO.dstore hH rfl (ev rfl) (ev rfl) (by assumption) rfl rfl (by exact at1) (List.getElem?_set_self (by simp only [List.length_set,List.length_map]; omega)) (Nat.le_of_ble_eq_true rfl) (by intro d hd; simp only [List.mem_cons,List.not_mem_nil,or_false] at hd; subst hd; rfl) (by exact .inr rfl) (fun st hH => ?_);dsimp only [u1,u2,setMany] at hH;rw [List.set_set] at hH;refine zQ 1 ?_;refine ⟨fun i h => (by cases h),_,_,_,rfl,leaveD_rw rfl,?_⟩;exact ⟨rfl,by rw [List.map_set]; exact hH0.leaveRwD hS2 hH⟩
def ixF_Qg (fr : Go.V.Fr) (k : Nat) : Go.V.D := Go.V.nth .junk fr.loc k
def natC (n : Nat) : List D := [.int .i64 (n : Nat)]
theorem natC_get {l : List Nat} {i q : Nat} (h : l[i]? = some q) : (l.map natC)[i]? = some (natC q) := by rw [List.getElem?_map,h]; rfl
def MkH (N : Nat) (S st : St) (k : Nat) (nd zd ed : D) (Z E : List Int) (H : List Ent) (code : List PIns) : Prop :=
 ∃ cd ks,Has N S st (.box k (.mem 0 false [cd,nd,zd,ed]) :: .deep ks cd 4 (code.map insC) :: .lst zd 1 (Z.map intC) :: .lst ed 1 (E.map intC) :: H)
def NodeSpec (l : List Nod) (t : Tr) : Prop := ∀ {N k : Nat} {S s0 : St} {H : List Ent} {nd zd ed : D} {code : List PIns} {Z E : List Int} {at_ : Nat},S.flr <= N -> SlD nd 7 (l.map nodC) -> Seg l at_ t.flat -> Seg Z at_ t.zs -> Seg E at_ (t.es at_) -> t.ok -> code.length + t.sz <= 1000000 -> MkH N S s0 k nd zd ed Z E H code ->
 ∃ r st',Ev pv 44 [.ptr k 0 0, .int .i64 (at_ : Nat)] s0 r st' /\ r = .tup [] /\ MkH N S st' k nd zd ed Z E H (code ++ codeT t code.length)
theorem es_head {E : List Int} {t : Tr} {a : Nat} (h : Seg E a (t.es a)) : E[a]? = some ((a + t.flat.length : Nat) : Int) := by
 obtain ⟨n,ks⟩ := t;simp only [Tr.es] at h;rw [h.head];simp only [Tr.flat,List.length_cons]
 congr 2; omega
theorem zs_head {Z : List Int} {t : Tr} {a : Nat} (h : Seg Z a t.zs) : Z[a]? = some ((min t.sz 401 : Nat) : Int) := by
 obtain ⟨n,ks⟩ := t;simp only [Tr.zs] at h;rw [h.head]; rfl
theorem alt_ev {l : List Nod} (hll : l.length <= 1048576) {m : Nat} (ih : ∀ t : Tr,t.flat.length <= m -> NodeSpec l t) {n : Nod} {ks : Trs} (hop : n.op = 4) (hkm : ks.flat.length <= m) (hno : nodOk n ks.len) (hks : ks.ok) {N k : Nat} {S s0 : St} {H : List Ent} {nd zd ed : D} {code : List PIns} {Z E : List Int} {at_ : Nat} (hF : S.flr <= N) (hnd : SlD nd 7 (l.map nodC)) (hsl : Seg l at_ (n :: ks.flat)) (hsz : Seg Z (at_ + 1) ks.zs) (hse : Seg E (at_ + 1) (ks.es (at_ + 1))) (hb : code.length + nodSz n ks.sz ks.len <= 1000000) (hM : MkH N S s0 k nd zd ed Z E H code) :
  ∃ r st',Ev pv 75 [.ptr k 0 0, .int .i64 (at_ : Nat)] s0 r st' /\ r = .tup [] /\ MkH N S st' k nd zd ed Z E H (code ++ altT (jpI (code.length + nodSz n ks.sz ks.len)) ks code.length) := by
 obtain ⟨cd,dk,hH⟩ := hM;have hle := hsl.le (by simp);simp only [List.length_cons] at hle;have hn := hsl.head;have hsl := hsl.tail;have hr1 := nod_get hn;have hkd := hno.1;have hkl := Trs.len_le ks
 have hk2 : 2 <= ks.len := by
  obtain ⟨_,hq⟩ := hno; omega
 have hns : nodSz n ks.sz ks.len = ks.sz + 2 * (ks.len - 1) := by unfold nodSz; rw [if_neg (by omega),if_pos hop]
 rw [hns] at hb ⊢;clear hns;refine Ev.mkE rfl fi75 rfl rfl rfl ?_;refine zE ?_;change EvC _ _ _ _ s0 _;have hc := hnd.arg N S;refine zQ 18 ?_;refine qr fun p17 hp17 => ?_;refine qf (fo := 6) fun p18 hp18 => ?_;refine zQ 3 ?_;have hH : Has N S s0 (.box k (.mem 0 false [cd,nd,zd,ed]) :: .deep dk cd 4 (code.map insC) :: .lst zd 1 (Z.map intC) :: .lst ed 1 (E.map intC) :: .lst .nul 1 (([] : List Nat).map natC) :: H) := (hH.nulE 1).rot5;refine zQ 1 ?_;refine EvC.loop (fun mm fr st => ∃ (i j : Nat) (rest : Trs) (cd jd : D) (dk : Nat -> Prop) (code2 : List PIns) (js : List Nat),fr.clean = ⟨68, [.ptr k 0 0, .int .i64 (at_ : Nat),ixF_Qg fr 2,ixF_Qg fr 3,jd, .int .i64 (j : Nat),ixF_Qg fr 6,ixF_Qg fr 7,ixF_Qg fr 8,ixF_Qg fr 9,ixF_Qg fr 10,ixF_Qg fr 11,ixF_Qg fr 12,ixF_Qg fr 13,ixF_Qg fr 14,ixF_Qg fr 15,ixF_Qg fr 16,ixF_Qg fr 17,ixF_Qg fr 18, .int .i64 n.kids, .int .i64 (i : Nat),ixF_Qg fr 21,ixF_Qg fr 22,ixF_Qg fr 23,ixF_Qg fr 24,ixF_Qg fr 25,ixF_Qg fr 26,ixF_Qg fr 27,ixF_Qg fr 28,ixF_Qg fr 29,ixF_Qg fr 30,ixF_Qg fr 31,ixF_Qg fr 32,ixF_Qg fr 33,ixF_Qg fr 34,ixF_Qg fr 35,ixF_Qg fr 36,ixF_Qg fr 37,ixF_Qg fr 38,ixF_Qg fr 39,ixF_Qg fr 40,ixF_Qg fr 41,ixF_Qg fr 42,ixF_Qg fr 43,ixF_Qg fr 44,ixF_Qg fr 45,ixF_Qg fr 46,ixF_Qg fr 47,ixF_Qg fr 48,ixF_Qg fr 49,ixF_Qg fr 50,ixF_Qg fr 51,ixF_Qg fr 52,ixF_Qg fr 53,ixF_Qg fr 54,ixF_Qg fr 55,ixF_Qg fr 56,ixF_Qg fr 57,ixF_Qg fr 58,ixF_Qg fr 59,ixF_Qg fr 60,ixF_Qg fr 61,ixF_Qg fr 62,ixF_Qg fr 63,ixF_Qg fr 64,ixF_Qg fr 65,ixF_Qg fr 66,ixF_Qg fr 67], []⟩ /\ Has N S st (.box k (.mem 0 false [cd,nd,zd,ed]) :: .deep dk cd 4 (code2.map insC) :: .lst zd 1 (Z.map intC) :: .lst ed 1 (E.map intC) :: .lst jd 1 (js.map natC) :: H) /\ (mm = rest.len) /\ (i + rest.len = ks.len) /\ (0 < rest.len) /\ (Seg l j rest.flat) /\ (Seg Z j rest.zs) /\ (Seg E j (rest.es j)) /\ (rest.ok) /\ (code2 ++ altT (jpI 0) rest code2.length = code ++ altT (jpI 0) ks code.length) /\ (js ++ altJ rest code2.length = altJ ks code.length) /\ (code2.length + (rest.sz + 2 * (rest.len - 1)) = code.length + (ks.sz + 2 * (ks.len - 1))) /\ (rest.flat.length <= m) /\ (js.length <= i)) (ks.len) ?_ ?_
 ·exact ⟨0,at_ + 1,ks,cd, .nul,dk,code, [],rfl,hH,rfl,by omega,by omega,hsl,hsz,hse,hks,rfl,rfl,rfl,hkm,by simp⟩
 rintro mm fr st ⟨i,j,rest,cd,jd,dk,code2,js,hfr,hH,hmm,hi2,hr0,hsg,hsgz,hsge,hrok,hcode,hjs,hcl,hrm,hjl⟩;rw [hfr];clear hfr;generalize ixF_Qg fr = ee;clear fr;refine zQ 4 ?_
 cases rest with
 | nil => simp [Trs.len] at hr0
 | cons t ts =>
  simp only [Trs.len] at hi2 hmm hcl;simp only [Trs.sz] at hcl;simp only [Trs.flat,List.length_append] at hsg hrm;simp only [Trs.zs] at hsgz;simp only [Trs.es] at hsge;simp only [Trs.ok] at hrok;have htz := t.zs_len;have hte := t.es_len j;have htc := codeT_len t (code2.length + 1) hrok.1;have hr11 := int_get (es_head hsge.left);have hcc : decide ((i : Int) < n.kids) = true := by rw [decide_eq_true_eq]; omega
  refine qq ?_;refine qD rfl (by rw [hcc]) ?_;refine zQ 17 ?_;refine qr fun p29 hp29 => ?_;refine qf (fo := 6) fun p30 hp30 => ?_;refine qR ?_;refine EvO.subZ (z := ((ks.len - 1 : Nat) : Int)) rfl (ev rfl) (ev rfl) (by (try simp only [List.length_reverse,List.length_cons,List.length_nil,List.length_append,List.length_map,List.length_set]); rw [wrap_i64 (by omega) (by omega)] <;> omega) (by dsimp only [Fr.put,u1,u2] <;> rfl) ?_;refine zQ 2 ?_
  by_cases hlast : ts.len = 0
  ·simp only [altT,altJ,if_pos hlast,List.append_nil] at hcode hjs;have htn := Trs.len_nil hlast;subst htn;simp only [Trs.sz,Trs.len] at hcl hi2;have hcc2 : (((i : Nat) : Int) == ((ks.len - 1 : Nat) : Int)) = true := by rw [beq_iff_eq]; omega
   refine qD rfl (by rw [hcc2]) ?_;refine zQ 4 ?_;obtain ⟨_,st,hev,rfl,cd,dk,hH⟩ := ih t (by omega) hF hnd hsg.left hsgz.left hsge.left hrok.1 (by omega) ⟨cd,dk,hH⟩;refine qv hev ?_;refine zQ 5 ?_;refine qn ?_ (hR := hH.rows at4);simp only [List.length_map];refine zQ 2 ?_;rw [hcode] at hH;have hal := altT_len (jpI 0) ks code.length hks;obtain ⟨hp1,hp2⟩ := alt_patch (jp := jpI (code.length + (ks.sz + 2 * (ks.len - 1)))) (i0 := jpI 0) ks code.length code [] hks rfl;simp only [List.append_nil] at hp1 hp2;have hC0 : (code ++ altT (jpI 0) ks code.length).length = code.length + (ks.sz + 2 * (ks.len - 1)) := by rw [List.length_append,hal]
   rw [<- hjs] at hp1 hp2;rw [<- hp1];clear hp1 hcode;generalize code ++ altT (jpI 0) ks code.length = C0 at *;generalize code.length + (ks.sz + 2 * (ks.len - 1)) = e at *;refine zQ 1 ?_;refine EvC.loop (fun mm fr st => ∃ (q : Nat) (C : List PIns),fr.clean = ⟨68, [.ptr k 0 0,ixF_Qg fr 1,ixF_Qg fr 2,ixF_Qg fr 3,ixF_Qg fr 4,ixF_Qg fr 5,ixF_Qg fr 6,ixF_Qg fr 7,ixF_Qg fr 8,ixF_Qg fr 9,ixF_Qg fr 10,ixF_Qg fr 11,ixF_Qg fr 12,ixF_Qg fr 13,ixF_Qg fr 14,ixF_Qg fr 15,ixF_Qg fr 16,ixF_Qg fr 17,ixF_Qg fr 18,ixF_Qg fr 19,ixF_Qg fr 20,ixF_Qg fr 21,ixF_Qg fr 22,ixF_Qg fr 23,ixF_Qg fr 24,ixF_Qg fr 25,ixF_Qg fr 26,ixF_Qg fr 27,ixF_Qg fr 28,ixF_Qg fr 29,ixF_Qg fr 30,ixF_Qg fr 31,ixF_Qg fr 32,ixF_Qg fr 33,ixF_Qg fr 34,ixF_Qg fr 35,ixF_Qg fr 36,ixF_Qg fr 37,ixF_Qg fr 38,ixF_Qg fr 39,ixF_Qg fr 40,ixF_Qg fr 41,ixF_Qg fr 42,ixF_Qg fr 43,ixF_Qg fr 44,ixF_Qg fr 45,ixF_Qg fr 46,ixF_Qg fr 47,ixF_Qg fr 48,ixF_Qg fr 49,ixF_Qg fr 50,ixF_Qg fr 51,ixF_Qg fr 52,ixF_Qg fr 53,ixF_Qg fr 54,ixF_Qg fr 55,ixF_Qg fr 56,ixF_Qg fr 57,ixF_Qg fr 58,ixF_Qg fr 59,ixF_Qg fr 60,ixF_Qg fr 61,ixF_Qg fr 62,ixF_Qg fr 63,ixF_Qg fr 64,jd, .int .i64 (js.length : Nat), .int .i64 (q : Nat)], []⟩ /\ Has N S st (.box k (.mem 0 false [cd,nd,zd,ed]) :: .deep dk cd 4 (C.map insC) :: .lst zd 1 (Z.map intC) :: .lst ed 1 (E.map intC) :: .lst jd 1 (js.map natC) :: H) /\ (q + mm = js.length) /\ (setAll (fun _ => jpI e) C (js.drop q) = setAll (fun _ => jpI e) C0 js) /\ (∀ p ∈ js, ∃ v : Int,C[p]? = some (mkI 3 v 0 [])) /\ (C.length = e)) (js.length) ?_ ?_
   ·exact ⟨0,C0,rfl,hH,by omega,rfl,fun p hp => ⟨_,hp2 p hp⟩,hC0⟩
   rintro mm fr st ⟨q,C,hfr,hH,hq,hset,hall,hCl⟩;rw [hfr];clear hfr;generalize ixF_Qg fr = ee;clear fr;refine zQ 5 ?_;refine zP (fun hlt => ?_) fun hlt => ?_
   ·refine zQ 1 ?_;have hql : q < js.length := by omega
    obtain ⟨p,hp⟩ : ∃ p,js[q]? = some p := ⟨js[q]'hql,List.getElem?_eq_getElem _⟩
    obtain ⟨v,hv⟩ := hall p (List.mem_of_getElem? hp);have hr1 := natC_get hp;have hr2 := ins_get hv;have hpl := lt_get hv;refine zQ 4 ?_;refine qi hH at4 fun p69 hp69 => ?_;refine zQ 13 ?_;refine EvO.dlen hH rfl (ev rfl) (by exact at1) rfl (put_T rfl _) ?_;simp only [List.length_map];refine EvO.didx (s := 4) hH rfl (ev rfl) (ev rfl) (by exact at1) rfl rfl (by exact lt_get (by assumption)) (fun _ => (put_T rfl _)) (fun p81 hp81 => ?_);refine EvO.ofieldN (fo := 1) (m := 0) (o2 := 1) rfl (ev rfl) (by assumption) rfl rfl rfl (fun _ => (put_T rfl _)) (fun p82 hp82 => ?_);refine EvO.dstore hH rfl (ev rfl) (ev rfl) (by assumption) rfl rfl (by exact at1) (by assumption) (Nat.le_of_ble_eq_true rfl) (by intro d hd; simp only [List.mem_cons,List.not_mem_nil,or_false] at hd; subst hd; rfl) (by exact .inl hF) (fun st hH => ?_);dsimp only [u2,u1,u3,u4,setMany,u5,u6,D.cells,Nat.reduceAdd,insC,nodC,intC,natC] at hH;refine zQ 5 ?_
    have hdr : js.drop q = p :: js.drop (q + 1) := by
     rw [List.drop_eq_getElem_cons hql]
     congr 1
     exact Option.some.inj ((List.getElem?_eq_getElem _).symm.trans hp)
    refine ⟨mm - 1,by omega,⟨q + 1,C.set p (jpI e),rfl,(by rw [List.map_set, <- hCl]; exact hH),by omega,by rw [hdr] at hset; exact hset,?_,by rw [List.length_set]; exact hCl⟩⟩;intro p' hp'
    by_cases hpp : p' = p
    ·subst hpp; exact ⟨_,List.getElem?_set_self hpl⟩
    ·rw [List.getElem?_set_ne (fun e => hpp e.symm)]; exact hall p' hp'
   ·refine zQ 1 ?_;refine ⟨fun i h => (by cases h),_,_,_,rfl,rfl,?_⟩;have hq2 : q = js.length := by omega
    rw [hq2,List.drop_length] at hset;have hset : C = setAll (fun _ => jpI e) C0 js := hset;rw [<- hset];exact ⟨rfl,cd,dk,hH.erase 4⟩
  ·simp only [altT,altJ,if_neg hlast] at hcode hjs;have hcc2 : (((i : Nat) : Int) == ((ks.len - 1 : Nat) : Int)) = false := by rw [beq_eq_false_iff_ne]; omega
   refine qE rfl (by rw [hcc2]) ?_;refine zQ 4 ?_;refine EvO.go (d := .agg [.int .i64 2, .int .i64 0, .int .i64 0, .nul]) (st1 := _) rfl rfl rfl (by dsimp only [Fr.put,u1,u2] <;> rfl) ?_;have hH := hH.nulE 2;obtain ⟨_,st,hev,rfl,cd,dk,hH⟩ := add_ev (rs := []) hF (by omega) hH;refine qv hev ?_;refine zQ 2 ?_;have hcl1 : (code2 ++ [mkI 2 0 0 []]).length = code2.length + 1 := by simp
   refine zQ 4 ?_;obtain ⟨_,st,hev,rfl,cd,dk,hH⟩ := ih t (by omega) hF hnd hsg.left hsgz.left hsge.left hrok.1 (by omega) ⟨cd,dk,hH⟩;refine qv hev ?_;refine zQ 1 ?_;rw [hcl1] at hH;have hcl2 : (code2 ++ [mkI 2 0 0 []] ++ codeT t (code2.length + 1)).length = code2.length + 1 + t.sz := by rw [List.length_append,hcl1,htc]
   refine zQ 4 ?_;refine EvO.go (d := .agg [.int .i64 3, .int .i64 0, .int .i64 0, .nul]) (st1 := _) rfl rfl rfl (by dsimp only [Fr.put,u1,u2] <;> rfl) ?_;have hH := hH.nulE 2;obtain ⟨_,st,hev,rfl,cd,dk,hH⟩ := add_ev (rs := []) hF (by omega) hH;refine qv hev ?_;refine qh (s := 1) (vs := [_]) hH fun k47 st hk47 hH => ?_;refine qP hH at5 (hH.rows at0) fun x48 st hH => ?_;dsimp only [u2,u1,u3,u4,setMany,u5,u6,D.cells,Nat.reduceAdd,insC,nodC,intC,natC] at hH;refine zQ 2 ?_;have hH := hH.drop 1
   have hat3 : (code2 ++ [mkI 2 0 0 []] ++ codeT t (code2.length + 1) ++ [mkI 3 0 0 []])[code2.length]? = some (mkI 2 0 0 []) := by
    rw [List.append_assoc,List.append_assoc]; exact get_mid _ _ _
   have hcl3 : (code2 ++ [mkI 2 0 0 []] ++ codeT t (code2.length + 1) ++ [mkI 3 0 0 []]).length = code2.length + 1 + t.sz + 1 := by rw [List.length_append,hcl2]; rfl
   have hst3 : (code2 ++ [mkI 2 0 0 []] ++ codeT t (code2.length + 1) ++ [mkI 3 0 0 []]).set code2.length (spI code2.length (code2.length + 1 + t.sz + 1) false) = code2 ++ (spI code2.length (code2.length + 1 + t.sz + 1) false :: (codeT t (code2.length + 1) ++ [jpI 0])) := by
    rw [List.append_assoc,List.append_assoc]; exact set_mid _ _ _ _
   have hcl4 : (code2 ++ (spI code2.length (code2.length + 1 + t.sz + 1) false :: (codeT t (code2.length + 1) ++ [jpI 0]))).length = code2.length + t.sz + 2 := by rw [<- hst3,List.length_set,hcl3]; omega
   generalize code2 ++ [mkI 2 0 0 []] ++ codeT t (code2.length + 1) ++ [mkI 3 0 0 []] = code3 at *;refine zQ 8 ?_;refine EvO.dlen hH rfl (ev rfl) (by exact at1) rfl (by dsimp only [Fr.put,u1,u2] <;> rfl) ?_;simp only [List.length_map,List.length_append,List.length_cons,List.length_nil];obtain ⟨_,st,hev,rfl,hH⟩ := split_ev (at_ := code2.length) (over := code3.length) (lz := false) hat3 (by omega) hH;refine qv hev ?_;refine zQ 1 ?_;rw [hcl3,hst3] at hH;refine zQ 6 ?_;refine qi hH at3 fun p62 hp62 => ?_;refine zQ 7 ?_;exact ⟨mm - 1,by omega,⟨i + 1,j + t.flat.length,ts,cd,x48,dk,code2 ++ (spI code2.length (code2.length + 1 + t.sz + 1) false :: (codeT t (code2.length + 1) ++ [jpI 0])),js ++ [code2.length + 1 + t.sz],rfl,(by rw [List.map_append (f := natC)]; rw [hcl2] at hH; exact hH),by omega,by omega,by omega,hsg.right,by rw [<- htz]; exact hsgz.right,by rw [<- hte]; rw [<- hte] at hsge; exact hsge.right,hrok.2,by rw [hcl4, <- hcode]; simp only [List.append_assoc,List.cons_append,List.nil_append],by rw [hcl4, <- hjs]; simp only [List.append_assoc,List.cons_append,List.nil_append],by rw [hcl4]; omega,by omega,by rw [List.length_append]; simp only [List.length_cons,List.length_nil]; omega⟩⟩
end Go.Proofs.Ytnleclohocdkaaa
