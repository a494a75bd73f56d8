/- own -/
import Derived.Test.YtapfahlbkhgdpaaTGHr
import Derived.Test.YtapfahlbkhgdpaaTGQh
import Derived.Test.YtapfahlbkhgdpaaTGKb
set_option maxRecDepth 100000
set_option maxHeartbeats 4000000
set_option linter.unusedSimpArgs false
set_option linter.unusedVariables false
namespace Go.Proofs.Ytapfahlbkhgdpaa
open Go.V Go
def ixF_Te (fr : Go.V.Fr) (k : Nat) : Go.V.D := Go.V.nth .junk fr.loc k
noncomputable def classL (gs : List (Nat × Nat)) (f : Nat) : Nat -> Nat -> List Rg -> Bool -> PR (List Rg)
 | 0,_,_,_ => .er 4 f
 | n + 1,i,l,nn =>
  if isS gs i 93 = true then (if nn = true then .er 4 f else .ok l i)
  else if gs.length <= i then .er 4 f
  else match itemF gs i with
   | .er e w => .er e w
   | .ok a j => classL gs f n j (l ++ a) false
noncomputable def classF (gs : List (Nat × Nat)) (i : Nat) : PR (List Rg) :=
 match classL gs i (gs.length + 1) (if isS gs (i + 1) 94 = true then i + 2 else i + 1) [] true with
 | .er e w => .er e w
 | .ok l k => .ok (if isS gs (i + 1) 94 = true then notR (makeR l) else makeR l) (k + 1)
def clsN (a : List Rg) : Nod := mkNd 2 0 0 false 0 0 a
noncomputable def clsR (gs : List (Nat × Nat)) (i g : Nat) : PR (List Nod × Nat) :=
 match classF gs i with
 | .er e w => .er e w
 | .ok a j => .ok ([clsN a],g) j
def NodesX (gs : List (Nat × Nat)) (pls : List Int) (R : PR (List Nod × Nat)) (s s' : Prs) (d : D) (c : Nat) : Prop :=
 s'.o = s.o /\ s'.g <= 4 /\ s.i <= s'.i /\ s'.i <= gs.length /\ ∃ l : List Nod,d = nlD l /\ (∀ n ∈ l,NdV n) /\ l.length <= 4 * (s'.i - s.i) + 1 /\ (ErrX R pls s' \/ s'.e = 0 /\ R = .ok (l,s'.g) s'.i /\ l.length + c <= 4 * (s'.i - s.i))
def NodesXQ (gs : List (Nat × Nat)) (pls : List Int) (R : PR (List Nod × Nat)) (s s' : Prs) (d : D) : Prop :=
 s'.o = s.o /\ s'.g <= 4 /\ s.i <= s'.i /\ s'.i <= gs.length /\ ∃ l : List Nod,d = nlD l /\ (∀ n ∈ l,NdV n) /\ l.length <= 4 * (s'.i - s.i) + 1 /\ (ErrX R pls s' \/ s'.e = 0 /\ R = .ok (l,s'.g) s'.i)
theorem nodesX_nil {gs : List (Nat × Nat)} {pls : List Int} {R : PR (List Nod × Nat)} {s s' : Prs} {c : Nat} (h1 : s'.o = s.o) (h2 : s'.g <= 4) (h3 : s.i <= s'.i) (h4 : s'.i <= gs.length) (h5 : ErrX R pls s') : NodesX gs pls R s s' (.sl []) c :=
 ⟨h1,h2,h3,h4, [],rfl,fun n hn => (by cases hn),by simp, .inl h5⟩
theorem classX_ev {N k : Nat} {S s0 : St} {H : List Ent} {gs : List (Nat × Nat)} {plD : D} {pls : List Int} {s : Prs} (hok : PrsOk gs pls) (he : s.e = 0) (hi : s.i < gs.length) (hg : s.g <= 4) (hH : Has N S s0 (.box k (.mem 0 false (prsC gs plD s)) :: .lst plD 1 (pls.map intC) :: H)) :
  ∃ d st',Ev pv 58 [.ptr k 0 0] s0 d st' /\ ∃ (s' : Prs),NodesX gs pls (clsR gs s.i s.g) s s' d 2 /\ Has N S st' (.box k (.mem 0 false (prsC gs plD s')) :: .lst plD 1 (pls.map intC) :: H) := by
 have hgl := hok.gl;have hpl := hok.pl;refine Ev.mkE rfl fi58 rfl rfl rfl ?_;refine zE ?_;have hH0 := hH;have hH := hH.enterRw;have hS2 : (enterSt .rw s0).bs = s0.bs := rfl;generalize enterSt .rw s0 = S2 at *;have hgr : Arg N S2 2 (gotsD gs) (gs.map gotC) := Arg.pure (fun st => gots_rows st gs);refine zQ 21 ?_;refine qT hH at0 fun st hH => ?_;dsimp only [u2,u1,u3,u4,setMany,u5,u6,D.cells,Nat.reduceAdd,prsC,gotC,intC,rangeC] at hH;refine zQ 1 ?_;have hH : Has N S2 st (.box k (.mem 0 false (prsC gs plD { s with i := s.i + 1 })) :: .lst plD 1 (pls.map intC) :: H) := hH;obtain ⟨k1,k2,k3,k4,k5⟩ := skip_i (gs := gs) (s := { s with i := s.i + 1 }) (r := 94);have k5 := k5 (by show s.i + 1 <= _; omega);simp only at k1 k2 k3 k4
 have hst : (skipS gs { s with i := s.i + 1 } 94).i = if isS gs (s.i + 1) 94 = true then s.i + 2 else s.i + 1 := by
  unfold skipS; simp only; split <;> rfl
 refine zQ 3 ?_;obtain ⟨_,st,hev,rfl,hH⟩ := skip_ev (s := { s with i := s.i + 1 }) (by omega) 94 hH;refine qv hev ?_;refine zQ 2 ?_
 have hcv : clsR gs s.i s.g = match classL gs s.i (gs.length + 1) (if isS gs (s.i + 1) 94 = true then s.i + 2 else s.i + 1) [] true with
  | .er e w => .er e w
  | .ok l k => .ok ([clsN (if isS gs (s.i + 1) 94 = true then notR (makeR l) else makeR l)],s.g) (k + 1) := by
  unfold clsR classF;cases classL gs s.i (gs.length + 1) (if isS gs (s.i + 1) 94 = true then s.i + 2 else s.i + 1) [] true <;> rfl
 rw [<- hst] at hcv
 change clsR gs s.i s.g = match classL gs s.i (gs.length + 1) (skipS gs { s with i := s.i + 1 } 94).i [] true with
  | .er e w => .er e w
  | .ok l k => .ok ([clsN (if isS gs ({ s with i := s.i + 1 } : Prs).i 94 = true then notR (makeR l) else makeR l)],s.g) (k + 1) at hcv
 generalize skipS gs { s with i := s.i + 1 } 94 = s1 at *;generalize isS gs ({ s with i := s.i + 1 } : Prs).i 94 = nt at *;clear hst
 obtain ⟨C0,hC0⟩ : ∃ C0,classL gs s.i (gs.length + 1) s1.i [] true = C0 := ⟨_,rfl⟩
 rw [hC0] at hcv;have hce : ∀ s',ErrX C0 pls s' -> ErrX (clsR gs s.i s.g) pls s' := fun s' h => h.map fun e w hw => by rw [hcv,hw]
 refine zQ 8 ?_
 have hH : Has N S2 st (.box k (.mem 0 false (prsC gs plD s1)) :: .lst plD 1 (pls.map intC) :: .lst .nul 2 (([] : List Rg).map rangeC) :: H) := ((hH.nulE 2).front at1 |>.front at2 |> fun h => (h.front at1))
 refine zQ 2 ?_;refine EvC.loop (fun mm fr st => ∃ (s1 : Prs) (ld : D) (lr : List Rg) (nn : Bool),fr.clean = ⟨7, [.ptr k 0 0,ixF_Te fr 1,ixF_Te fr 2, .int .i64 (s.i : Nat), .bool nt,ld, .bool nn], []⟩ /\ Has N S2 st (.box k (.mem 0 false (prsC gs plD s1)) :: .lst plD 1 (pls.map intC) :: .lst ld 2 (lr.map rangeC) :: H) /\ (s1.o = s.o) /\ (s1.g = s.g) /\ (s.i < s1.i) /\ (s1.i <= gs.length) /\ (lr.length <= 8 * s1.i + 8) /\ (s1.e = 0 -> lr.length <= 8 * s1.i) /\ (gs.length - s1.i + (if s1.e = 0 then 1 else 0) <= mm) /\ (ErrX C0 pls s1 \/ s1.e = 0 /\ ∃ n,gs.length < n + s1.i /\ C0 = classL gs s.i n s1.i lr nn)) (gs.length + 1) ?_ ?_
 ·exact ⟨s1, .nul, [],true,rfl,hH,k1,k2,by omega,k5,by simp,fun _ => by simp,by split <;> omega, .inr ⟨k3.trans he,gs.length + 1,by omega,hC0.symm⟩⟩
 rintro mm fr st ⟨s1,ld,lr,nn,hfr,hH,h1,h2,h3,h4,h5,h6,hmm,h7⟩;rw [hfr];clear hfr;generalize ixF_Te fr = ee;clear fr
 rcases h7 with h7 | ⟨he1,n,hn1,hn2⟩
 ·have he1 := h7.ne;have hg5 : (s1.e == 0) = false := by simpa using he1
  refine zQ 25 ?_;refine qD rfl (by simp [he1]) ?_;refine zQ 4 ?_;refine EvC.ret ⟨rx,_,_,_,rfl,leaveD_rw (rfl),?_⟩;exact ⟨_,nodesX_nil h1 (by omega) (by omega) h4 (hce _ h7),hH0.leaveRw1 hS2 (hH.erase 2)⟩
 ·rw [if_pos he1] at hmm;have h6 := h6 he1;have hg5 : (s1.e == 0) = true := by simpa using he1
  obtain ⟨n,rfl⟩ : ∃ m,n = m + 1 := ⟨n - 1,by omega⟩
  unfold classL at hn2;refine zQ 10 ?_;obtain ⟨_,st,hev,rfl,hH⟩ := is_ev (s := s1) (by omega) 93 hH;refine qv hev ?_ (hg := wi hg5);refine zQ 3 ?_
  cases hb : isS gs s1.i 93 with
  | true =>
   have hlt := isS_lt hb;rw [hb,if_pos rfl] at hn2;refine zQ 11 ?_;refine qE rfl (by simp [he1]) ?_;refine zQ 6 ?_
   cases nn with
   | true =>
    rw [if_pos rfl] at hn2;refine zQ 5 ?_;obtain ⟨_,st,hev,rfl,hH⟩ := wrong_ev (s := s1) s.i 4 (by omega) hH;refine qv hev ?_;refine zQ 2 ?_;obtain ⟨w1,w2,w3,w4⟩ := wrong_x (pls := pls) (s := s1) (i := s.i) (e := 4) he1 (by decide) hn2;refine EvC.ret ⟨rx,_,_,_,rfl,leaveD_rw (rfl),?_⟩;exact ⟨_,nodesX_nil (by omega) (by omega) (by omega) (by omega) (hce _ w1),hH0.leaveRw1 hS2 (hH.erase 2)⟩
   | false =>
    rw [if_neg (by simp)] at hn2;rw [hn2] at hcv;simp only at hcv;refine zQ 11 ?_;refine qT hH at0 fun st hH => ?_;dsimp only [u2,u1,u3,u4,setMany,u5,u6,D.cells,Nat.reduceAdd,prsC,gotC,intC,rangeC] at hH;refine zQ 4 ?_;obtain ⟨hev,hml,_⟩ := mk_ev (l := lr) (hH.rows at2) (by omega);refine qv hev ?_;refine zQ 2 ?_;generalize makeR lr = m at *;refine zQ 5 ?_
    have hfin : ∀ (st : St) (a : List Rg) (k70 : Nat),a = (if nt = true then notR m else m) -> a.length <= 1048576 -> S2.bs.length <= k70 -> Has N S2 st (.lst (.win k70 0 0 1 7) 7 [[.int .i64 2,rangesV a, .int .i64 0, .int .i64 0, .bool false, .int .i64 0, .int .i64 0]] :: .box k (.mem 0 false (prsC gs plD { s1 with i := s1.i + 1 })) :: .lst plD 1 (pls.map intC) :: .lst ld 2 (lr.map rangeC) :: H) ->
      ∃ d st',leaveD .rw false s0 st (.win k70 0 0 1 7) = some (d,st') /\ ∃ (s' : Prs),NodesX gs pls (clsR gs s.i s.g) s s' d 2 /\ Has N S st' (.box k (.mem 0 false (prsC gs plD s')) :: .lst plD 1 (pls.map intC) :: H) := by
     intro st a k70 hav ha hk hH;have hfz := has_freeze1 hH at0 (L := s0.bs.length) (.inl rfl) (fun k hk => by simp only [D.ref] at hk; rw [<- hS2]; omega);exact ⟨_,_,leaveD_rw hfz, { s1 with i := s1.i + 1 },⟨h1,by show s1.g <= 4; omega,by show s.i <= s1.i + 1; omega,by show s1.i + 1 <= _; omega,_,rfl,mk_v ha (by omega),by simp, .inr ⟨he1,by rw [hcv, <- hav]; show _ = PR.ok (_,s1.g) _; rw [h2]; rfl,by show 1 + 2 <= 4 * (s1.i + 1 - s.i); omega⟩⟩,hH0.leaveRw1 hS2 ((hH.drop 1).erase 2)⟩
    cases nt with
    | true =>
     refine zQ 3 ?_;obtain ⟨hev,hla⟩ := notX_ev (l := m) (rangesV_rows _ _) (by omega);refine qv hev ?_;refine zQ 5 ?_;refine EvO.ones (qs := [(0,_),(1,_)]) rfl rfl rfl rfl ⟨rfl,(ev rfl),(by rfl),rfl,(ev rfl),(by rfl),trivial⟩ (by intro q hq; simp only [List.mem_cons,List.not_mem_nil,or_false] at hq; rcases hq with rfl | rfl <;> exact ⟨rfl,by exact Nat.le_of_ble_eq_true rfl⟩) (by show List.foldl _ [_,_,_,_,_,_,_] _ = _; dsimp only [List.foldl_cons,List.foldl_nil,u2,u1] <;> rfl) (put_T rfl _) ?_;refine qh (s := 7) (vs := [_]) hH fun k70 st hk70 hH => ?_;refine zQ 2 ?_;obtain ⟨d',st',hld,hrest⟩ := hfin _ (notR m) k70 rfl (by omega) hk70 hH;refine EvC.ret ⟨rx,_,d',st',rfl,hld,hrest⟩
    | false =>
     refine zQ 5 ?_;refine EvO.ones (qs := [(0,_),(1,_)]) rfl rfl rfl rfl ⟨rfl,(ev rfl),(by rfl),rfl,(ev rfl),(by rfl),trivial⟩ (by intro q hq; simp only [List.mem_cons,List.not_mem_nil,or_false] at hq; rcases hq with rfl | rfl <;> exact ⟨rfl,by exact Nat.le_of_ble_eq_true rfl⟩) (by show List.foldl _ [_,_,_,_,_,_,_] _ = _; dsimp only [List.foldl_cons,List.foldl_nil,u2,u1] <;> rfl) (put_T rfl _) ?_;refine qh (s := 7) (vs := [_]) hH fun k70 st hk70 hH => ?_;refine zQ 2 ?_;obtain ⟨d',st',hld,hrest⟩ := hfin _ m k70 rfl (by omega) hk70 hH;refine EvC.ret ⟨rx,_,d',st',rfl,hld,hrest⟩
  | false =>
   rw [hb,if_neg (by simp)] at hn2;refine zQ 14 ?_;refine qn ?_;simp only [List.length_map];refine zQ 2 ?_;refine zP (fun hge => ?_) fun hge => ?_
   ·rw [if_pos (by omega)] at hn2;refine zQ 4 ?_;obtain ⟨_,st,hev,rfl,hH⟩ := wrong_ev (s := s1) s.i 4 (by omega) hH;refine qv hev ?_;refine zQ 2 ?_;obtain ⟨w1,w2,w3,w4⟩ := wrong_x (pls := pls) (s := s1) (i := s.i) (e := 4) he1 (by decide) hn2;refine EvC.ret ⟨rx,_,_,_,rfl,leaveD_rw (rfl),?_⟩;exact ⟨_,nodesX_nil (by omega) (by omega) (by omega) (by omega) (hce _ w1),hH0.leaveRw1 hS2 (hH.erase 2)⟩
   ·rw [if_neg (by omega)] at hn2;refine zQ 5 ?_;obtain ⟨_,st,hev,s2,⟨i1,i2,i3,i4,a,rfl,i5,i6⟩,hH⟩ := itemX_ev (s := s1) hok he1 (by omega) hH;have hra := (ranges_sl a).arg N S2;have hrf := range_refs a;refine qv hev ?_;refine EvO.happend (s := 2) hH rfl (ev rfl) (ev rfl) (by exact at2) (by exact Arg.rows (by assumption) hH) rfl rfl rfl rfl rfl rfl rfl ⟨(Nat.le_of_ble_eq_true rfl),(Nat.le_of_ble_eq_true rfl)⟩ (fun _ => (put_T rfl _)) (by simp only [List.length_map] <;> omega) (by exact .inr (by assumption)) (fun x46 st hH => ?_);dsimp only [u2,u1,u3,u4,setMany,u5,u6,D.cells,Nat.reduceAdd,prsC,gotC,intC,rangeC] at hH;refine zQ 5 ?_
    rcases i6 with i6 | ⟨i6,i7,i8⟩
    ·have hne := i6.ne;exact ⟨mm - 1,by omega,⟨s2,x46,lr ++ a,false,rfl,(by rw [List.map_append]; exact hH),i1.trans h1,i2.trans h2,by omega,i4,by rw [List.length_append]; omega,fun e => absurd e hne,by rw [if_neg hne]; omega, .inl (i6.map fun e w h => by rw [hn2,h])⟩⟩
    ·rw [i8] at hn2;simp only at hn2;exact ⟨mm - 1,by omega,⟨s2,x46,lr ++ a,false,rfl,(by rw [List.map_append]; exact hH),i1.trans h1,i2.trans h2,by omega,i4,by rw [List.length_append]; omega,fun e => by rw [List.length_append]; omega,by rw [if_pos i6]; omega, .inr ⟨i6,n,by omega,hn2⟩⟩⟩
def oftenF (gs : List (Nat × Nat)) (f : Nat) : PR (Int × Int) :=
 if (digS (rsF gs (f + 1)) []).2 = 0 then .er 4 f
 else if isS gs (f + 1 + (digS (rsF gs (f + 1)) []).2) 44 = true then
  (if isS gs (f + 1 + (digS (rsF gs (f + 1)) []).2 + 1 + (digS (rsF gs (f + 1 + (digS (rsF gs (f + 1)) []).2 + 1)) []).2) 125 = true then
   (if (digS (rsF gs (f + 1 + (digS (rsF gs (f + 1)) []).2 + 1)) []).2 = 0 then
    (if (valF (digS (rsF gs (f + 1)) []).1).2 = true then .ok ((valF (digS (rsF gs (f + 1)) []).1).1, -1) (f + 1 + (digS (rsF gs (f + 1)) []).2 + 1 + (digS (rsF gs (f + 1 + (digS (rsF gs (f + 1)) []).2 + 1)) []).2 + 1) else .er 2 f)
   else if lessB (digS (rsF gs (f + 1 + (digS (rsF gs (f + 1)) []).2 + 1)) []).1 (digS (rsF gs (f + 1)) []).1 = true then .er 4 f
   else if (valF (digS (rsF gs (f + 1)) []).1).2 = true /\ (valF (digS (rsF gs (f + 1 + (digS (rsF gs (f + 1)) []).2 + 1)) []).1).2 = true then .ok ((valF (digS (rsF gs (f + 1)) []).1).1,(valF (digS (rsF gs (f + 1 + (digS (rsF gs (f + 1)) []).2 + 1)) []).1).1) (f + 1 + (digS (rsF gs (f + 1)) []).2 + 1 + (digS (rsF gs (f + 1 + (digS (rsF gs (f + 1)) []).2 + 1)) []).2 + 1) else .er 2 f)
  else .er 4 f)
 else (if isS gs (f + 1 + (digS (rsF gs (f + 1)) []).2) 125 = true then
   (if lessB (digS (rsF gs (f + 1)) []).1 (digS (rsF gs (f + 1)) []).1 = true then .er 4 f
   else if (valF (digS (rsF gs (f + 1)) []).1).2 = true then .ok ((valF (digS (rsF gs (f + 1)) []).1).1,(valF (digS (rsF gs (f + 1)) []).1).1) (f + 1 + (digS (rsF gs (f + 1)) []).2 + 1) else .er 2 f)
  else .er 4 f)
def oftenG (gs : List (Nat × Nat)) (f : Nat) (m n : List UInt8) (ok en : Bool) (i : Nat) : PR (Int × Int) :=
 if ok = false then .er 4 f
 else if isS gs i 125 = false then .er 4 f
 else if en = false /\ lessB n m = true then .er 4 f
 else if (valF m).2 = true /\ (valF (if en = true then [] else n)).2 = true then .ok ((valF m).1,if en = true then -1 else (valF n).1) (i + 1)
 else .er 2 f
theorem often_two (gs : List (Nat × Nat)) (f : Nat) : oftenF gs f =
  if (digS (rsF gs (f + 1)) []).2 ≠ 0 /\ isS gs (f + 1 + (digS (rsF gs (f + 1)) []).2) 44 = true then
   oftenG gs f (digS (rsF gs (f + 1)) []).1 (digS (rsF gs (f + 1 + (digS (rsF gs (f + 1)) []).2 + 1)) []).1 true (!decide (0 < (digS (rsF gs (f + 1 + (digS (rsF gs (f + 1)) []).2 + 1)) []).2)) (f + 1 + (digS (rsF gs (f + 1)) []).2 + 1 + (digS (rsF gs (f + 1 + (digS (rsF gs (f + 1)) []).2 + 1)) []).2)
  else oftenG gs f (digS (rsF gs (f + 1)) []).1 (digS (rsF gs (f + 1)) []).1 (decide (0 < (digS (rsF gs (f + 1)) []).2)) false (f + 1 + (digS (rsF gs (f + 1)) []).2) := by
 unfold oftenF oftenG;have hv0 : (valF []).2 = true := rfl;generalize (digS (rsF gs (f + 1)) []) = A;generalize (digS (rsF gs (f + 1 + A.2 + 1)) []) = B;generalize isS gs (f + 1 + A.2) 44 = c1;generalize isS gs (f + 1 + A.2) 125 = c2;generalize isS gs (f + 1 + A.2 + 1 + B.2) 125 = c3;generalize lessB A.1 A.1 = c4;generalize lessB B.1 A.1 = c5
 by_cases h1 : A.2 = 0
 ·simp [h1]
 ·have h1' : 0 < A.2 := by omega
  by_cases h2 : B.2 = 0
  ·cases c1 <;> cases c2 <;> cases c3 <;> cases c4 <;> cases c5 <;> simp [h1,h1',h2,hv0]
  ·have h2' : 0 < B.2 := by omega
   cases c1 <;> cases c2 <;> cases c3 <;> cases c4 <;> cases c5 <;> simp [h1,h1',h2,h2',hv0]
def joinS (op : Int) (ps : List (List Nod)) : List Nod :=
 match ps with
 | [] => [mkNd 1 0 0 false 0 0 []]
 | [l] => l
 | ps => mkNd op 0 0 false 0 (ps.length : Nat) [] :: ps.flatten
theorem sumL_flat : ∀ l : List (List Nod),sumL l = l.flatten.length
 | [] => rfl
 | a :: l => by rw [sumL,List.flatten_cons,List.length_append,sumL_flat l]
theorem joinedX_ev {s0 : St} {x : D} {parts : List (List Nod)} (op : Int) (hx : V.Rows s0 1 x (parts.map partC)) (hv : ∀ l ∈ parts, ∀ n ∈ l,NdV n) (hp : parts.length <= 100000) (hs : sumL parts <= 100000) : Ev pv 35 [.int .i64 op,x] s0 (nlD (joinS op parts)) s0 /\ (∀ n ∈ joinS op parts,NdV n) /\ (parts.length = 1 -> (joinS op parts).length <= sumL parts) /\ (joinS op parts).length <= sumL parts + 1 := by
 suffices hg : ∃ d,Ev pv 35 [.int .i64 op,x] s0 d s0 /\ d = nlD (joinS op parts) /\ (∀ n ∈ joinS op parts,NdV n) /\ (parts.length = 1 -> (joinS op parts).length <= sumL parts) /\ (joinS op parts).length <= sumL parts + 1 by
  obtain ⟨d,h1,rfl,h2⟩ := hg;exact ⟨h1,h2⟩
 refine Ev.mkR rfl fi35 rfl rfl rfl ?_;refine zE ?_;obtain ⟨hSb,hF,hH⟩ := ri s0;generalize enterSt .ro s0 = S at *;have hx := Arg.of hx hSb;refine zQ 8 ?_;refine qn ?_;simp only [List.length_map];refine zQ 7 ?_
 by_cases h0 : parts.length = 0
 ·have hpe : parts = [] := List.length_eq_zero_iff.1 h0;refine qD rfl (by simp [h0]) ?_;refine zQ 2 ?_;refine EvO.go (d := .agg [.int .i64 1, .nul, .int .i64 0, .int .i64 0, .bool false, .int .i64 0, .int .i64 0]) (st1 := _) rfl rfl rfl (by dsimp only [Fr.put,u1,u2] <;> rfl) ?_;refine qh (s := 7) (vs := [_]) hH fun k13 st hk13 hH => ?_;refine zQ 2 ?_;have hfz := has_freeze1 (L := s0.bs.length) (a := []) hH at0 (.inr ⟨rfl,rfl⟩) (fun k hk => by have hk' : k13 + 1 = k + 1 := hk; rw [<- hSb]; omega);refine EvC.ret ⟨rx,_,_,rfl,rl hSb hH (hfz),?_⟩;rw [hpe];exact ⟨rfl,mk_v (by simp) (by omega),fun h => by simp at h,by simp [joinS]⟩
 have hc0 : (((parts.length : Nat) : Int) == 0) = false := by rw [beq_eq_false_iff_ne]; omega
 refine qE rfl (by rw [hc0]) ?_;refine zQ 5 ?_
 by_cases h1 : parts.length = 1
 ·obtain ⟨q,hq⟩ : ∃ q,parts[0]? = some q := ⟨parts[0]'(by omega),List.getElem?_eq_getElem _⟩
  have hr1 := part_get hq
  have hq1 : parts = [q] := by
   match parts,h1,hq with
   | [a],_,hq => simp at hq; rw [hq]
  refine qD rfl (by simp [h1]) ?_;refine zQ 3 ?_;refine qr fun p17 hp17 => ?_;refine zQ 3 ?_;refine EvC.ret ⟨rx,_,_,rfl,rl hSb hH (rfl),?_⟩;have hj : joinS op parts = q := by rw [hq1]; rfl
  refine ⟨by rw [hj]; rfl,by rw [hj]; exact hv q (List.mem_of_getElem? hq),fun _ => ?_,?_⟩ <;> rw [hj,hq1] <;> simp [sumL]
 have hc1 : (((parts.length : Nat) : Int) == 1) = false := by rw [beq_eq_false_iff_ne]; omega
 have hj : joinS op parts = mkNd op 0 0 false 0 (parts.length : Nat) [] :: parts.flatten := by
  match parts,h0,h1 with
  | _ :: _ :: _,_,_ => rfl
 rw [hj];refine qE rfl (by rw [hc1]) ?_;refine zQ 5 ?_;refine qn ?_;simp only [List.length_map];refine EvO.go (d := .agg [.int .i64 op, .nul, .int .i64 0, .int .i64 0, .bool false, .int .i64 0, .int .i64 (parts.length : Nat)]) (st1 := _) rfl rfl rfl (by dsimp only [Fr.put,u1,u2] <;> rfl) ?_;refine qh (s := 7) (vs := [_]) hH fun k23 st hk23 hH => ?_;refine zQ 6 ?_;refine qn ?_;simp only [List.length_map];refine zQ 2 ?_;have hH : Has s0.bs.length S st (.lst (.win k23 0 0 1 7) 7 [[.int .i64 op, .nul, .int .i64 0, .int .i64 0, .bool false, .int .i64 0, .int .i64 (parts.length : Nat)]] :: []) := hH;refine zQ 1 ?_;refine EvC.loop (fun mm fr st => ∃ (i : Nat) (od : D) (es : List (List D)),fr.clean = ⟨27, [ixF_Te fr 0,ixF_Te fr 1,ixF_Te fr 2,ixF_Te fr 3,ixF_Te fr 4,od,ixF_Te fr 6,ixF_Te fr 7,ixF_Te fr 8,ixF_Te fr 9,ixF_Te fr 10,ixF_Te fr 11,ixF_Te fr 12,ixF_Te fr 13,ixF_Te fr 14,ixF_Te fr 15,ixF_Te fr 16,ixF_Te fr 17,ixF_Te fr 18,ixF_Te fr 19,ixF_Te fr 20,ixF_Te fr 21,ixF_Te fr 22,ixF_Te fr 23,x, .int .i64 (parts.length : Nat), .int .i64 (i : Nat)], []⟩ /\ Has s0.bs.length S st [.lst od 7 es] /\ (i + mm = parts.length) /\ (es.map (·.map frzC) = (mkNd op 0 0 false 0 (parts.length : Nat) [] :: (parts.take i).flatten).map nodC) /\ (∀ e ∈ es, ∀ d ∈ e,tellC d = true) /\ (∀ k,od.ref = k + 1 -> S.bs.length <= k)) (parts.length) ?_ ?_
 ·refine ⟨0, .win k23 0 0 1 7, [[.int .i64 op, .nul, .int .i64 0, .int .i64 0, .bool false, .int .i64 0, .int .i64 (parts.length : Nat)]],rfl,hH,by omega,rfl,?_,fun k hk => by simp only [D.ref] at hk; omega⟩;intro e he d hd;simp only [List.mem_cons,List.not_mem_nil,or_false] at he;subst he;simp only [List.mem_cons,List.not_mem_nil,or_false] at hd
  rcases hd with rfl | rfl | rfl | rfl | rfl | rfl | rfl <;> rfl
 rintro mm fr st ⟨i,od,es,hfr,hH,hi,hes,ht,hod⟩;rw [hfr];clear hfr;generalize ixF_Te fr = ee;clear fr;refine zQ 4 ?_
 by_cases hlt : i < parts.length
 ·obtain ⟨q,hq⟩ : ∃ q,parts[i]? = some q := ⟨parts[i]'hlt,List.getElem?_eq_getElem _⟩
  have hr1 := part_get hq;have hqv := hv q (List.mem_of_getElem? hq)
  have hel : es.length = 1 + (parts.take i).flatten.length := by
   have hco : (List.length ∘ List.map nodC : List Nod -> Nat) = List.length := by funext l; simp
   have := congrArg List.length hes;simp [hco] at this
   simp; omega
  have htk : parts.take (i + 1) = parts.take i ++ [q] := by rw [List.take_add_one,hq]; rfl
  have hsum : sumL (parts.take (i + 1)) = sumL (parts.take i) + q.length := by rw [htk,sumL_append]; simp [sumL]
  have hsle : sumL (parts.take (i + 1)) <= sumL parts := by
   have := sumL_append (parts.take (i + 1)) (parts.drop (i + 1));rw [List.take_append_drop] at this; omega
  have hsf := sumL_flat (parts.take i);refine qq ?_;refine qD rfl (by simp; omega) ?_;refine zQ 5 ?_;refine qr fun p28 hp28 => ?_;refine zQ 6 ?_;refine EvO.happend5 (s := 7) hH rfl (ev rfl) (ev rfl) at0 ((nl_sl hqv).rows st) rfl rfl rfl rfl rfl rfl rfl ⟨(Nat.le_of_ble_eq_true rfl),(Nat.le_of_ble_eq_true rfl)⟩ (fun _ => (put_T rfl _)) (by rw [List.length_map]; omega) (.inl hF) hod (fun x32 st hod hH => ?_);dsimp only [u2] at hH;refine zQ 6 ?_;refine ⟨mm - 1,by omega,⟨i + 1,x32,es ++ q.map nodC,rfl,hH,by omega,by rw [List.map_append,hes,nod_frz hqv,htk,List.flatten_append,List.map_cons,List.map_cons,List.map_append]; simp,?_,hod⟩⟩;intro e he
  rcases List.mem_append.1 he with he | he
  ·exact ht e he
  ·exact nod_tell hqv e he
 ·refine qq ?_;refine qE rfl (by simp; omega) ?_;refine zQ 6 ?_;have hik : i = parts.length := by omega
  rw [hik,List.take_length] at hes
  have hall : ∀ n ∈ mkNd op 0 0 false 0 (parts.length : Nat) [] :: parts.flatten,NdV n := fun n hn => by
   rcases List.mem_cons.1 hn with rfl | hn
   ·exact mk_v (by simp) (by omega) _ (List.mem_cons_self ..)
   ·obtain ⟨l,hl,hn⟩ := List.mem_flatten.1 hn;exact hv l hl n hn
  refine EvC.ret ⟨rx,_,_,rfl,rl hSb hH (has_freezeN hH at0 hes ht (fun k hk => by have := hod k hk; rw [<- hSb]; exact this) (by decide)),?_⟩;have hsf := sumL_flat parts;exact ⟨rfl,hall,by omega,by simp only [List.length_cons]; omega⟩
def ixF_Tf (fr : Go.V.Fr) (k : Nat) : Go.V.D := Go.V.nth .junk fr.loc k
def MoveX (gs : List (Nat × Nat)) (pls : List Int) (R : PR (Int × Int)) (s s' : Prs) (n1 n2 : Int) : Prop :=
 MoveP gs s s' /\ (ErrX R pls s' \/ s'.e = 0 /\ R = .ok (n1,n2) s'.i)
theorem skipX_no {gs : List (Nat × Nat)} {s : Prs} {r : Int} (h : isS gs s.i r = false) : skipS gs s r = s := by
 unfold skipS; rw [if_neg (by rw [h]; simp)]
theorem skipX_yes {gs : List (Nat × Nat)} {s : Prs} {r : Int} (h : isS gs s.i r = true) : (skipS gs s r).i = s.i + 1 := by
 unfold skipS; rw [if_pos h]
theorem oftenX_ev {N k : Nat} {S s0 : St} {H : List Ent} {gs : List (Nat × Nat)} {plD : D} {pls : List Int} {s : Prs} (hok : PrsOk gs pls) (he : s.e = 0) (hi : s.i < gs.length) (hH : Has N S s0 (.box k (.mem 0 false (prsC gs plD s)) :: .lst plD 1 (pls.map intC) :: H)) :
  ∃ d st',Ev pv 51 [.ptr k 0 0] s0 d st' /\ ∃ (n1 n2 : Int) (s' : Prs),d = .tup [.int .i64 n1, .int .i64 n2] /\ MoveX gs pls (oftenF gs s.i) s s' n1 n2 /\ Has N S st' (.box k (.mem 0 false (prsC gs plD s')) :: .lst plD 1 (pls.map intC) :: H) := by
 have hgl := hok.gl;have hpl := hok.pl;have hne : gs ≠ [] := by rintro rfl; simp at hi
 refine Ev.mkE rfl fi51 rfl rfl rfl ?_;refine zE ?_;have hH0 := hH;have hH := hH.enterRw;have hS2 : (enterSt .rw s0).bs = s0.bs := rfl;generalize enterSt .rw s0 = S2 at *;refine zQ 22 ?_;refine qT hH at0 fun st hH => ?_;dsimp only [u2,u1,u3,u4,setMany,u5,u6,D.cells,Nat.reduceAdd,prsC,gotC,intC,rangeC] at hH;refine zQ 1 ?_;have hH : Has N S2 st (.box k (.mem 0 false (prsC gs plD { s with i := s.i + 1 })) :: .lst plD 1 (pls.map intC) :: H) := hH;have hall := often_two gs s.i
 obtain ⟨R,hR⟩ : ∃ R,oftenF gs s.i = R := ⟨_,rfl⟩
 rw [hR] at hall ⊢;clear hR
 have herr : ∀ (st : St) (s3 : Prs) (e : Int),e ≠ 0 -> s3.e = 0 -> MoveP gs s s3 -> R = .er e s.i -> Has N S2 st (.box k (.mem 0 false (prsC gs plD s3)) :: .lst plD 1 (pls.map intC) :: H) -> ∃ d st',Ev pv 17 [.ptr k 0 0, .int .i64 (s.i : Nat), .int .i64 e] st d st' /\ d = .sl [] /\ ∃ s4,(∀ n1 n2,MoveX gs pls R s s4 n1 n2) /\ Has N S2 st' (.box k (.mem 0 false (prsC gs plD s4)) :: .lst plD 1 (pls.map intC) :: H) := by
  intro st s3 e h0 h1 h2 hv hH;obtain ⟨d,st',hev,h4,hH⟩ := wrong_ev (s := s3) s.i e (by omega) hH;obtain ⟨w1,w2,w3,w4⟩ := wrong_x (pls := pls) (s := s3) (i := s.i) (e := e) h1 h0 hv;exact ⟨d,st',hev,h4,_,fun _ _ => ⟨⟨w3.trans h2.1,w4.trans h2.2.1,by rw [w2]; exact h2.2.2.1,by rw [w2]; exact h2.2.2.2⟩, .inl w1⟩,hH⟩
 obtain ⟨A,hA⟩ : ∃ A,digS (rsF gs (s.i + 1)) [] = A := ⟨_,rfl⟩
 refine zQ 3 ?_;obtain ⟨_,st,hev,rfl,hml,hmi,hH⟩ := digitsX_ev (s := { s with i := s.i + 1 }) hgl (by show s.i + 1 <= _; omega) hne hH;dsimp only at hev hml hmi hH;rw [hA] at hev hml hmi hH;refine qv hev ?_;refine zQ 6 ?_;rw [hA] at hall;obtain ⟨m,a2⟩ := A;clear hA;dsimp only at hall hml hmi hH
 obtain ⟨s1,hs1⟩ : ∃ s1 : Prs,({ s with i := s.i + 1 + a2 } : Prs) = s1 := ⟨_,rfl⟩
 have hs1e : s1.e = 0 := by rw [<- hs1]; exact he
 have hs1i : s1.i = s.i + 1 + a2 := by rw [<- hs1]
 have hs1m : MoveP gs s s1 := by rw [<- hs1]; exact ⟨rfl,rfl,by show s.i < s.i + 1 + a2; omega,hmi⟩
 have hH : Has N S2 st (.box k (.mem 0 false (prsC gs plD s1)) :: .lst plD 1 (pls.map intC) :: H) := by rw [<- hs1]; exact hH
 clear hs1;rw [<- hs1i] at hall
 obtain ⟨ok,hokd⟩ : ∃ ok,decide (0 < a2) = ok := ⟨_,rfl⟩
 rw [hokd] at hall ⊢;refine zQ 8 ?_;refine EvC.merge3 (fun fr st => ∃ (n : List UInt8) (en : Bool) (s3 : Prs) (tmp : List (Nat × D)),fr = ⟨14, [.ptr k 0 0,ixF_Tf fr 1,ixF_Tf fr 2,ixF_Tf fr 3, .int .i64 (s.i : Nat), .str m, .bool ok, .str n, .bool en,ixF_Tf fr 9,ixF_Tf fr 10,ixF_Tf fr 11,ixF_Tf fr 12,ixF_Tf fr 13],tmp⟩ /\ Has N S2 st (.box k (.mem 0 false (prsC gs plD s3)) :: .lst plD 1 (pls.map intC) :: H) /\ (s3.e = 0) /\ (MoveP gs s s3) /\ (n.length <= 120) /\ (R = oftenG gs s.i m n ok en s3.i)) ?_ ?_
 ·cases ok with
  | false =>
   have ha2 : a2 = 0 := by have := of_decide_eq_false hokd; omega
   have hg1 : false = false := rfl;refine zQ 9 ?_;exact ⟨m,false,s1,_,rfl,hH,hs1e,hs1m,hml,by rw [hall,if_neg (fun h => h.1 ha2)]⟩
  | true =>
   have ha2 : 0 < a2 := of_decide_eq_true hokd;have hg1 : true = true := rfl;obtain ⟨k1,k2,k3,k4,k5⟩ := skip_i (gs := gs) (s := s1) (r := 44);have k5 := k5 hs1m.2.2.2;have k6 := skipX_no (gs := gs) (s := s1) (r := 44);have k7 := skipX_yes (gs := gs) (s := s1) (r := 44);refine zQ 4 ?_;obtain ⟨_,st,hev,rfl,hH⟩ := skip_ev (s := s1) (by omega) 44 hH;refine qv hev ?_ (hg := wi hg1);refine zQ 2 ?_;generalize skipS gs s1 44 = s2 at *
   have hs2m : MoveP gs s s2 := ⟨k1.trans hs1m.1,k2.trans hs1m.2.1,by have := hs1m.2.2.1; omega,k5⟩
   cases hb : isS gs s1.i 44 with
   | false =>
    have k6 := k6 hb;rw [k6] at hH;refine zQ 2 ?_;exact ⟨m,false,s1,_,rfl,hH,hs1e,hs1m,hml,by rw [hall,if_neg (fun h => by rw [hb] at h; exact absurd h.2 (by simp))]⟩
   | true =>
    have k7 := k7 hb;refine zQ 5 ?_;rw [<- k7] at hall
    obtain ⟨B,hB⟩ : ∃ B,digS (rsF gs s2.i) [] = B := ⟨_,rfl⟩
    rw [hB] at hall;refine zQ 3 ?_;obtain ⟨_,st,hev,rfl,hnl,hni,hH⟩ := digitsX_ev (s := s2) hgl k5 hne hH;rw [hB] at hev hnl hni hH;refine qv hev ?_;refine zQ 6 ?_;clear hB;obtain ⟨n,b2⟩ := B;dsimp only at hall hnl hni hH;refine zQ 5 ?_;exact ⟨n, !decide (0 < b2), { s2 with i := s2.i + b2 },_,rfl,hH,k3.trans hs1e,⟨hs2m.1,hs2m.2.1,by have := hs2m.2.2.1; show s.i < s2.i + b2; omega,hni⟩,hnl,by rw [hall,if_pos ⟨by omega,hb⟩]⟩
 ·rintro fr st ⟨n,en,s3,tmp,hfr,hH,h1,h2,h3,hG⟩;rw [hfr];clear hfr;generalize ixF_Tf fr = ee;clear fr;clear hall hokd;obtain ⟨k1,k2,k3,k4,k5⟩ := skip_i (gs := gs) (s := s3) (r := 125);have k5 := k5 h2.2.2.2
  have hs4m : MoveP gs s (skipS gs s3 125) := ⟨k1.trans h2.1,k2.trans h2.2.1,by have := h2.2.2.1; omega,k5⟩
  have hs4e : (skipS gs s3 125).e = 0 := k3.trans h1;have k7 := skipX_yes (gs := gs) (s := s3) (r := 125);unfold oftenG at hG
  cases ok with
  | false =>
   rw [if_pos rfl] at hG;have hg2 : (!false) = true := rfl;refine zQ 25 ?_;obtain ⟨_,st,hev,rfl,s4,hm4,hH⟩ := herr _ s3 4 (by decide) h1 h2 hG hH;refine qv hev ?_;refine zQ 6 ?_;refine EvC.ret ⟨rx,_,_,_,rfl,leaveD_rw (rfl),?_⟩;exact ⟨_,_,s4,rfl,hm4 _ _,hH0.leaveRw1 hS2 hH⟩
  | true =>
   rw [if_neg (by simp)] at hG;have hg2 : (!true) = false := rfl
   cases hg7 : (!isS gs s3.i 125) with
   | true =>
    rw [if_pos (by simpa using hg7)] at hG;refine zQ 7 ?_;obtain ⟨_,st,hev,rfl,hH⟩ := skip_ev (s := s3) (by omega) 125 hH;refine qv hev ?_ (hg := wi hg2);refine zQ 12 ?_;generalize skipS gs s3 125 = s4 at *;refine zQ 5 ?_;obtain ⟨_,st,hev,rfl,s5,hm5,hH⟩ := herr _ s4 4 (by decide) hs4e hs4m hG hH;refine qv hev ?_;refine zQ 6 ?_;refine EvC.ret ⟨rx,_,_,_,rfl,leaveD_rw (rfl),?_⟩;exact ⟨_,_,s5,rfl,hm5 _ _,hH0.leaveRw1 hS2 hH⟩
   | false =>
    have hi7 : isS gs s3.i 125 = true := by simpa using hg7
    have k7 := k7 hi7;rw [if_neg (by rw [hi7]; simp)] at hG;rw [<- k7] at hG
    cases en with
    | true =>
     rw [if_neg (fun h => absurd h.1 (by simp))] at hG;have hg10 : (!true) = false := rfl;have hv1 := fun st => valueX_ev (s0 := st) m (by omega);have hv2 := fun st => valueX_ev (s0 := st) [] (by simp);simp only [if_true] at hG;generalize valF m = V1 at *;generalize valF [] = V2 at *;obtain ⟨a1,f1⟩ := V1;obtain ⟨b1,f2⟩ := V2;dsimp only at hG hv1 hv2;refine zQ 7 ?_;obtain ⟨_,st,hev,rfl,hH⟩ := skip_ev (s := s3) (by omega) 125 hH;refine qv hev ?_ (hg := wi hg2);refine zQ 9 ?_;refine EvO.pickF (wantD_is rfl rfl rfl hg7) rfl hg10 (put_T rfl _) ?_;refine zQ 2 ?_;generalize skipS gs s3 125 = s4 at *;refine zQ 5 ?_;refine qv ((hv1 _)) ?_;refine zQ 18 ?_;refine qv ((hv2 _)) ?_;refine zQ 8 ?_;refine EvC.cutT 78 (.bool (!f1 || !f2)) [] ?_ (fun ff tmp htmp => ?_)
     ·refine zQ 3 ?_;refine EvO.two 75 rfl (fun hg2 => ?_) (fun hg2 => ?_)
      ·refine zQ 3 ?_;refine EvO.nil (leafT ?_ ?_)
       ·dsimp only [setW,List.foldl,nth,u2,u1]
        all_goals (first | rfl | simp)
       ·refine zF ?_
        all_goals (simp [hg2]; done)
      ·refine zQ 3 ?_;refine EvO.nil (leafT ?_ ?_)
       ·dsimp only [setW,List.foldl,nth,u2,u1]
        all_goals (first | rfl | simp)
       ·refine zF ?_
        all_goals (simp [hg2]; done)
     dsimp only [setW,List.foldl,nth,u2,u1];refine qc (fun hff => ?_) (fun hff => ?_) <;> try simp only [cs] at hff
     ·rw [if_neg (fun h => by rw [h.1,h.2] at hff; simp at hff)] at hG;refine zQ 4 ?_;obtain ⟨_,st,hev,rfl,s5,hm5,hH⟩ := herr _ s4 2 (by decide) hs4e hs4m hG hH;refine qv hev ?_;refine zQ 6 ?_;refine EvC.ret ⟨rx,_,_,_,rfl,leaveD_rw (rfl),?_⟩;exact ⟨_,_,s5,rfl,hm5 _ _,hH0.leaveRw1 hS2 hH⟩
     ·rw [if_pos (by cases f1 <;> cases f2 <;> simp at hff ⊢)] at hG;refine zQ 17 ?_;refine EvC.ret ⟨rx,_,_,_,rfl,leaveD_rw (rfl),?_⟩;exact ⟨_,_,s4,rfl,⟨hs4m, .inr ⟨hs4e,hG⟩⟩,hH0.leaveRw1 hS2 hH⟩
    | false =>
     have hg10 : (!false) = true := rfl;have hv1 := fun st => valueX_ev (s0 := st) m (by omega);have hv2 := fun st => valueX_ev (s0 := st) n (by omega);have hle := fun st => lessX_ev (s0 := st) n m;have hif : ∀ (a b : Int),(if false = true then a else b) = b := fun a b => if_neg (by simp);have hil : ∀ (a b : List UInt8),(if false = true then a else b) = b := fun a b => if_neg (by simp);rw [hif,hil] at hG;generalize valF m = V1 at *;generalize valF n = V2 at *;obtain ⟨a1,f1⟩ := V1;obtain ⟨b1,f2⟩ := V2;dsimp only at hG hv1 hv2;generalize lessB n m = v at *;refine zQ 7 ?_;obtain ⟨_,st,hev,rfl,hH⟩ := skip_ev (s := s3) (by omega) 125 hH;refine qv hev ?_ (hg := wi hg2);refine zQ 8 ?_;refine qv ((hle _)) ?_ (hg := wi hg10);refine EvO.pickT (wantD_is rfl rfl rfl hg7) rfl hg10 (put_T rfl _) ?_;refine zQ 2 ?_;generalize skipS gs s3 125 = s4 at *
     cases v with
     | true =>
      rw [if_pos ⟨rfl,rfl⟩] at hG;refine zQ 5 ?_;obtain ⟨_,st,hev,rfl,s5,hm5,hH⟩ := herr _ s4 4 (by decide) hs4e hs4m hG hH;refine qv hev ?_;refine zQ 6 ?_;refine EvC.ret ⟨rx,_,_,_,rfl,leaveD_rw (rfl),?_⟩;exact ⟨_,_,s5,rfl,hm5 _ _,hH0.leaveRw1 hS2 hH⟩
     | false =>
      rw [if_neg (fun h => absurd h.2 (by simp))] at hG;refine zQ 5 ?_;refine qv ((hv1 _)) ?_;refine zQ 16 ?_;refine qv ((hv2 _)) ?_;refine zQ 8 ?_;refine EvC.cutT 78 (.bool (!f1 || !f2)) [] ?_ (fun ff tmp htmp => ?_)
      ·refine zQ 3 ?_;refine EvO.two 75 rfl (fun hg2 => ?_) (fun hg2 => ?_)
       ·refine zQ 3 ?_;refine EvO.nil (leafT ?_ ?_)
        ·dsimp only [setW,List.foldl,nth,u2,u1]
         all_goals (first | rfl | simp)
        ·refine zF ?_
         all_goals (simp [hg2]; done)
       ·refine zQ 3 ?_;refine EvO.nil (leafT ?_ ?_)
        ·dsimp only [setW,List.foldl,nth,u2,u1]
         all_goals (first | rfl | simp)
        ·refine zF ?_
         all_goals (simp [hg2]; done)
      dsimp only [setW,List.foldl,nth,u2,u1];refine qc (fun hff => ?_) (fun hff => ?_) <;> try simp only [cs] at hff
      ·rw [if_neg (fun h => by rw [h.1,h.2] at hff; simp at hff)] at hG;refine zQ 4 ?_;obtain ⟨_,st,hev,rfl,s5,hm5,hH⟩ := herr _ s4 2 (by decide) hs4e hs4m hG hH;refine qv hev ?_;refine zQ 6 ?_;refine EvC.ret ⟨rx,_,_,_,rfl,leaveD_rw (rfl),?_⟩;exact ⟨_,_,s5,rfl,hm5 _ _,hH0.leaveRw1 hS2 hH⟩
      ·rw [if_pos (by cases f1 <;> cases f2 <;> simp at hff ⊢)] at hG;refine zQ 15 ?_;refine EvC.ret ⟨rx,_,_,_,rfl,leaveD_rw (rfl),?_⟩;exact ⟨_,_,s4,rfl,⟨hs4m, .inr ⟨hs4e,hG⟩⟩,hH0.leaveRw1 hS2 hH⟩
def ixF_Tg (fr : Go.V.Fr) (k : Nat) : Go.V.D := Go.V.nth .junk fr.loc k
abbrev PF := Nat -> Nat -> PR (List Nod × Nat)
def groupB (A : PF) (gs : List (Nat × Nat)) (m i g : Nat) (free : Bool) (j : Nat) : PR (List Nod × Nat) :=
 if m = 0 then .er 10 i
 else if free = false /\ 4 <= g then .er 13 i
 else match A j (if free = true then g else g + 1) with
  | .er e w => .er e w
  | .ok (l,g2) j2 =>
   if isS gs j2 41 = true then .ok (if free = true then l else mkNd 6 0 0 false ((g + 1 : Nat) : Int) 1 [] :: l,g2) (j2 + 1)
   else .er 4 i
def groupF (A : PF) (gs : List (Nat × Nat)) (m i g : Nat) : PR (List Nod × Nat) :=
 if isS gs (i + 1) 63 = true then
  (if isS gs (i + 2) 58 = true then groupB A gs m i g true (i + 3) else .er 4 i)
 else groupB A gs m i g false (i + 1)
theorem ErrX.to {α : Type} {R : PR α} {pls : List Int} {s s' : Prs} (h : ErrX R pls s) (he : s'.e = s.e) (hw : s'.w = s.w) : ErrX R pls s' := by
 obtain ⟨e,w,h0,h1,h2,h3⟩ := h;exact ⟨e,w,h0,h1,he.trans h2,hw.trans h3⟩
def AltX (A : PF) (gs : List (Nat × Nat)) (m : Nat) : Prop := ∀ {N k : Nat} {S s0 : St} {H : List Ent} {plD : D} {pls : List Int} {s : Prs},PrsOk gs pls -> s.e = 0 -> s.i <= gs.length -> s.g <= 4 -> s.o + m = 20 -> Has N S s0 (.box k (.mem 0 false (prsC gs plD s)) :: .lst plD 1 (pls.map intC) :: H) ->
  ∃ d st',Ev pv 16 [.ptr k 0 0] s0 d st' /\ ∃ (s' : Prs),NodesXQ gs pls (A s.i s.g) s s' d /\ Has N S st' (.box k (.mem 0 false (prsC gs plD s')) :: .lst plD 1 (pls.map intC) :: H)
theorem groupX_ev {m : Nat} {gs : List (Nat × Nat)} {A : PF} (hA : ∀ m',m' + 1 = m -> AltX A gs m') {N k : Nat} {S s0 : St} {H : List Ent} {plD : D} {pls : List Int} {s : Prs} (hok : PrsOk gs pls) (he : s.e = 0) (hi : s.i < gs.length) (hg : s.g <= 4) (ho : s.o + m = 20) (hH : Has N S s0 (.box k (.mem 0 false (prsC gs plD s)) :: .lst plD 1 (pls.map intC) :: H)) :
  ∃ d st',Ev pv 57 [.ptr k 0 0] s0 d st' /\ ∃ (s' : Prs),NodesX gs pls (groupF A gs m s.i s.g) s s' d 2 /\ Has N S st' (.box k (.mem 0 false (prsC gs plD s')) :: .lst plD 1 (pls.map intC) :: H) := by
 have hgl := hok.gl;have hpl := hok.pl;refine Ev.mkE rfl fi57 rfl rfl rfl ?_;refine zE ?_;have hH0 := hH;have hH := hH.enterRw;have hS2 : (enterSt .rw s0).bs = s0.bs := rfl;generalize enterSt .rw s0 = S2 at *
 obtain ⟨R,hR⟩ : ∃ R,groupF A gs m s.i s.g = R := ⟨_,rfl⟩
 rw [hR];unfold groupF at hR
 have hwr : ∀ (st : St) (s3 : Prs) (e : Int) (H2 : List Ent),e ≠ 0 -> s3.e = 0 -> s3.o = s.o -> s3.g <= 4 -> s.i <= s3.i -> s3.i <= gs.length -> R = .er e s.i -> Has N S2 st (.box k (.mem 0 false (prsC gs plD s3)) :: .lst plD 1 (pls.map intC) :: H2) -> ∃ d st',Ev pv 17 [.ptr k 0 0, .int .i64 (s.i : Nat), .int .i64 e] st d st' /\ d = .sl [] /\ ∃ s4,NodesX gs pls R s s4 (.sl []) 2 /\ Has N S2 st' (.box k (.mem 0 false (prsC gs plD s4)) :: .lst plD 1 (pls.map intC) :: H2) := by
  intro st s3 e H2 h0 h1 h2 h3 h4 h5 hv hH;obtain ⟨d,st',hev,h6,hH⟩ := wrong_ev (s := s3) s.i e (by omega) hH;obtain ⟨w1,w2,w3,w4⟩ := wrong_x (pls := pls) (s := s3) (i := s.i) (e := e) h1 h0 hv;exact ⟨d,st',hev,h6,_,nodesX_nil (w3.trans h2) (by omega) (by omega) (by omega) w1,hH⟩
 refine zQ 21 ?_;refine qT hH at0 fun st hH => ?_;dsimp only [u2,u1,u3,u4,setMany,u5,u6,D.cells,Nat.reduceAdd,prsC,gotC,intC,rangeC,nodC] at hH;refine zQ 1 ?_;have hH : Has N S2 st (.box k (.mem 0 false (prsC gs plD { s with i := s.i + 1 })) :: .lst plD 1 (pls.map intC) :: H) := hH
 obtain ⟨s1,hs1⟩ : ∃ s1 : Prs,({ s with i := s.i + 1 } : Prs) = s1 := ⟨_,rfl⟩
 have hs1f : s1.e = 0 /\ s1.o = s.o /\ s1.g = s.g /\ s1.i = s.i + 1 := by rw [<- hs1]; exact ⟨he,rfl,rfl,rfl⟩
 rw [hs1] at hH;clear hs1;obtain ⟨f1,f2,f3,f4⟩ := hs1f;refine zQ 6 ?_;refine EvC.merge3 (fun fr st => ∃ (free : Bool) (s2 : Prs) (tmp : List (Nat × D)),fr = ⟨7, [.ptr k 0 0,ixF_Tg fr 1,ixF_Tg fr 2, .int .i64 (s.i : Nat), .bool free,ixF_Tg fr 5,ixF_Tg fr 6],tmp⟩ /\ Has N S2 st (.box k (.mem 0 false (prsC gs plD s2)) :: .lst plD 1 (pls.map intC) :: H) /\ (s2.e = 0) /\ (s2.o = s.o) /\ (s2.g = s.g) /\ (s.i + 1 <= s2.i) /\ (s2.i <= gs.length) /\ (groupB A gs m s.i s.g free s2.i = R)) ?_ ?_
 ·obtain ⟨k1,k2,k3,k4,k5⟩ := skip_i (gs := gs) (s := s1) (r := 63);have k5 := k5 (by omega);have k6 := skipX_no (gs := gs) (s := s1) (r := 63);have k7 := skipX_yes (gs := gs) (s := s1) (r := 63);refine zQ 2 ?_;obtain ⟨_,st,hev,rfl,hH⟩ := skip_ev (s := s1) (by omega) 63 hH;refine qv hev ?_;refine zQ 1 ?_;generalize skipS gs s1 63 = s2 at *
  cases hb : isS gs s1.i 63 with
  | false =>
   refine zQ 2 ?_;exact ⟨false,s2,_,rfl,hH,by omega,by omega,by omega,by omega,by omega,(by rw [k6 hb,f4, <- hR,if_neg (by rw [<- f4,hb]; simp)])⟩
  | true =>
   refine zQ 5 ?_;obtain ⟨r1,r2,r3,r4,r5⟩ := skip_i (gs := gs) (s := s2) (r := 58);have r5 := r5 k5;have k7 := k7 hb;have r7 := skipX_yes (gs := gs) (s := s2) (r := 58);refine zQ 3 ?_;obtain ⟨_,st,hev,rfl,hH⟩ := skip_ev (s := s2) (by omega) 58 hH;refine qv hev ?_;refine zQ 2 ?_;generalize skipS gs s2 58 = s3 at *
   cases hb2 : isS gs s2.i 58 with
   | false =>
    refine zQ 5 ?_;obtain ⟨_,st,hev,rfl,s4,hN,hH⟩ := hwr _ s3 4 _ (by decide) (by omega) (by omega) (by omega) (by omega) (by omega) (by rw [<- hR,if_pos (by rw [<- f4]; exact hb),if_neg (by rw [show s.i + 2 = s2.i by omega,hb2]; simp)]) hH;refine qv hev ?_;refine zQ 2 ?_;refine EvC.ret ⟨rx,_,_,_,rfl,leaveD_rw (rfl),?_⟩;exact ⟨s4,hN,hH0.leaveRw1 hS2 hH⟩
   | true =>
    refine zQ 2 ?_;exact ⟨true,s3,_,rfl,hH,by omega,by omega,by omega,by omega,by omega,(by rw [<- hR,if_pos (by rw [<- f4]; exact hb),if_pos (by rw [show s.i + 2 = s2.i by omega]; exact hb2),show s3.i = s.i + 3 by have := r7 hb2; omega])⟩
 ·rintro fr st ⟨free,s2,tmp,hfr,hH,h1,h2,h3,h4,h5,hG⟩;rw [hfr];clear hfr;generalize ixF_Tg fr = ee;clear fr;clear hR;refine zQ 9 ?_
  by_cases hdeep : 20 <= s2.o
  ·have hcc : decide (((s2.o : Nat) : Int) >= 20) = true := by rw [decide_eq_true_eq]; omega
   refine qD rfl (by rw [hcc]) ?_;refine zQ 4 ?_;obtain ⟨_,st,hev,rfl,s4,hN,hH⟩ := hwr _ s2 10 _ (by decide) h1 h2 (by omega) (by omega) h5 (by rw [<- hG]; unfold groupB; rw [if_pos (by omega)]) hH;refine qv hev ?_;refine zQ 2 ?_;refine EvC.ret ⟨rx,_,_,_,rfl,leaveD_rw (rfl),?_⟩;exact ⟨s4,hN,hH0.leaveRw1 hS2 hH⟩
  have hcc : decide (((s2.o : Nat) : Int) >= 20) = false := by rw [decide_eq_false_iff_not]; omega
  refine qE rfl (by rw [hcc]) ?_;refine zQ 3 ?_;refine EvO.go (d := .agg [.int .i64 6, .nul, .int .i64 0, .int .i64 0, .bool false, .int .i64 0, .int .i64 1]) (st1 := _) rfl rfl rfl (put_T rfl _) ?_;refine qa hH fun k5 st hk5 hH => ?_;dsimp only [u2,u1,u3,u4,setMany,u5,u6,D.cells,Nat.reduceAdd,prsC,gotC,intC,rangeC,nodC] at hH;refine qS hH at0 fun st hH => ?_;dsimp only [u2,u1,u3,u4,setMany,u5,u6,D.cells,Nat.reduceAdd,prsC,gotC,intC,rangeC,nodC] at hH;refine zQ 1 ?_;have hH : Has N S2 st (.box k (.mem 0 false (prsC gs plD s2)) :: .lst plD 1 (pls.map intC) :: .box k5 (.mem 0 false [.int .i64 6, .nul, .int .i64 0, .int .i64 0, .bool false, .int .i64 0, .int .i64 1]) :: H) := Has_rot3 hH;refine zQ 2 ?_;refine EvC.merge3 (fun fr st => ∃ (cap : Int) (s3 : Prs) (tmp : List (Nat × D)),fr = ⟨7, [.ptr k 0 0,ixF_Tg fr 1,ixF_Tg fr 2, .int .i64 (s.i : Nat), .bool free, .ptr k5 0 0,ixF_Tg fr 6],tmp⟩ /\ Has N S2 st (.box k (.mem 0 false (prsC gs plD s3)) :: .lst plD 1 (pls.map intC) :: .box k5 (.mem 0 false [.int .i64 6, .nul, .int .i64 0, .int .i64 0, .bool false, .int .i64 cap, .int .i64 1]) :: H) /\ (s3.e = 0) /\ (s3.o = s.o) /\ (s3.g <= 4) /\ (s3.i = s2.i) /\ (s3.g = (if free = true then s.g else s.g + 1)) /\ (cap = (if free = true then 0 else ((s.g + 1 : Nat) : Int))) /\ (¬ (free = false /\ 4 <= s.g))) ?_ ?_
  ·refine zQ 4 ?_
   cases free with
   | true =>
    refine zQ 2 ?_;exact ⟨0,s2,_,rfl,hH,h1,h2,by omega,rfl,(by rw [if_pos rfl]; exact h3),(by rw [if_pos rfl]),(fun h => absurd h.1 (by simp))⟩
   | false =>
    refine zQ 10 ?_
    by_cases hmany : 4 <= s2.g
    ·have hcc : decide (((s2.g : Nat) : Int) >= 4) = true := by rw [decide_eq_true_eq]; omega
     refine qD rfl (by rw [hcc]) ?_;refine zQ 4 ?_;obtain ⟨_,st,hev,rfl,s4,hN,hH⟩ := hwr _ s2 13 _ (by decide) h1 h2 (by omega) (by omega) h5 (by rw [<- hG]; unfold groupB; rw [if_neg (by omega),if_pos ⟨rfl,by omega⟩]) hH;refine qv hev ?_;refine zQ 2 ?_;refine EvC.ret ⟨rx,_,_,_,rfl,leaveD_rw (rfl),?_⟩;exact ⟨s4,hN,hH0.leaveRw1 hS2 (hH.erase 2)⟩
    ·have hcc : decide (((s2.g : Nat) : Int) >= 4) = false := by rw [decide_eq_false_iff_not]; omega
     refine qE rfl (by rw [hcc]) ?_;refine zQ 10 ?_;refine qT hH at0 fun st hH => ?_;dsimp only [u2,u1,u3,u4,setMany,u5,u6,D.cells,Nat.reduceAdd,prsC,gotC,intC,rangeC,nodC] at hH;refine zQ 7 ?_;refine qT hH at2 fun st hH => ?_;dsimp only [u2,u1,u3,u4,setMany,u5,u6,D.cells,Nat.reduceAdd,prsC,gotC,intC,rangeC,nodC] at hH;refine zQ 1 ?_;exact ⟨((s2.g + 1 : Nat) : Int), { s2 with g := s2.g + 1 },_,rfl,hH,h1,h2,by show s2.g + 1 <= 4; omega,rfl,(by rw [if_neg (by simp)]; show s2.g + 1 = _; omega),(by rw [if_neg (by simp),h3]),(fun h => by have := h.2; omega)⟩
  ·rintro fr st ⟨cap,s3,tmp,hfr,hH,e1,e2,e3,e4,e5,e6,e7⟩;rw [hfr];clear hfr;generalize ixF_Tg fr = ee;clear fr
   have hv : R = match A s3.i s3.g with
    | .er e w => .er e w
    | .ok (l,g2) j2 => if isS gs j2 41 = true then .ok (if free = true then l else mkNd 6 0 0 false ((s.g + 1 : Nat) : Int) 1 [] :: l,g2) (j2 + 1) else .er 4 s.i := by
    rw [<- hG,e4,e5];unfold groupB;rw [if_neg (by omega),if_neg e7]
   refine zQ 9 ?_;refine qT hH at0 fun st hH => ?_;dsimp only [u2,u1,u3,u4,setMany,u5,u6,D.cells,Nat.reduceAdd,prsC,gotC,intC,rangeC,nodC] at hH;refine zQ 1 ?_;have hH : Has N S2 st (.box k (.mem 0 false (prsC gs plD { s3 with o := s3.o + 1 })) :: .lst plD 1 (pls.map intC) :: .box k5 (.mem 0 false [.int .i64 6, .nul, .int .i64 0, .int .i64 0, .bool false, .int .i64 cap, .int .i64 1]) :: H) := hH;refine zQ 3 ?_;obtain ⟨_,st,hev,s4,⟨a1,a2,a3,a4,l,rfl,a5,a6,a7⟩,hH⟩ := hA (m - 1) (by omega) (s := { s3 with o := s3.o + 1 }) hok e1 (by show s3.i <= _; omega) e3 (by show s3.o + 1 + (m - 1) = 20; omega) hH;refine qv hev ?_;refine zQ 2 ?_;have a7 : ErrX (A s3.i s3.g) pls s4 \/ s4.e = 0 /\ A s3.i s3.g = .ok (l,s4.g) s4.i := a7;have a1 : s4.o = s3.o + 1 := a1;have a3 : s3.i <= s4.i := a3;have a6 : l.length <= 4 * (s4.i - s3.i) + 1 := a6;have hla := (nl_sl a5).arg N S2;refine zQ 6 ?_;refine EvO.subZ (z := ((s.o : Nat) : Int)) rfl (ev rfl) (ev rfl) (by (try simp only [List.length_reverse,List.length_cons,List.length_nil,List.length_append,List.length_map,List.length_set]); rw [wrap_i64 (by omega) (by omega)] <;> omega) (put_T rfl _) ?_;refine zQ 2 ?_;refine qT hH at0 fun st hH => ?_;dsimp only [u2,u1,u3,u4,setMany,u5,u6,D.cells,Nat.reduceAdd,prsC,gotC,intC,rangeC,nodC] at hH;refine zQ 1 ?_
   obtain ⟨s5,hs5⟩ : ∃ s5 : Prs,({ s4 with o := s.o } : Prs) = s5 := ⟨_,rfl⟩
   have hH : Has N S2 st (.box k (.mem 0 false (prsC gs plD s5)) :: .lst plD 1 (pls.map intC) :: .box k5 (.mem 0 false [.int .i64 6, .nul, .int .i64 0, .int .i64 0, .bool false, .int .i64 cap, .int .i64 1]) :: H) := by rw [<- hs5]; exact hH
   have hs5f : s5.o = s.o /\ s5.g = s4.g /\ s5.i = s4.i /\ s5.e = s4.e /\ s5.w = s4.w := by rw [<- hs5]; exact ⟨rfl,rfl,rfl,rfl,rfl⟩
   clear hs5;obtain ⟨b1,b2,b3,b4,b5⟩ := hs5f;refine zQ 2 ?_;refine EvC.merge3 (fun fr st => ∃ (s6 : Prs) (tmp : List (Nat × D)),fr = ⟨7, [.ptr k 0 0,ixF_Tg fr 1,ixF_Tg fr 2,ixF_Tg fr 3, .bool free, .ptr k5 0 0,nlD l],tmp⟩ /\ Has N S2 st (.box k (.mem 0 false (prsC gs plD s6)) :: .lst plD 1 (pls.map intC) :: .box k5 (.mem 0 false [.int .i64 6, .nul, .int .i64 0, .int .i64 0, .bool false, .int .i64 cap, .int .i64 1]) :: H) /\ (s6.o = s.o) /\ (s6.g <= 4) /\ (s4.i <= s6.i) /\ (s6.i <= gs.length) /\ (ErrX R pls s6 \/ s6.e = 0 /\ s4.i < s6.i /\ R = .ok (if free = true then l else mkNd 6 0 0 false ((s.g + 1 : Nat) : Int) 1 [] :: l,s6.g) s6.i)) ?_ ?_
   ·by_cases he5 : s5.e = 0
    ·have hg5 : (s5.e == 0) = true := by simpa using he5
     have a8 : A s3.i s3.g = .ok (l,s4.g) s4.i := by
      rcases a7 with a7 | a7
      ·exact absurd (b4.symm.trans he5) a7.ne
      ·exact a7.2
     rw [a8] at hv;simp only at hv;rw [<- b3] at hv;obtain ⟨k1,k2,k3,k4,k5'⟩ := skip_i (gs := gs) (s := s5) (r := 41);have k5' := k5' (by omega);have hsk : isS gs s5.i 41 = true -> (skipS gs s5 41).i = s5.i + 1 := fun h => by unfold skipS; rw [if_pos h]
     refine zQ 8 ?_;obtain ⟨_,st,hev,rfl,hH⟩ := skip_ev (s := s5) (by omega) 41 hH;refine qv hev ?_ (hg := wi hg5);refine zQ 3 ?_;generalize skipS gs s5 41 = s6 at *
     cases hb : isS gs s5.i 41 with
     | false =>
      refine zQ 5 ?_;obtain ⟨_,st,hev,rfl,s7,hN,hH⟩ := hwr _ s6 4 _ (by decide) (by omega) (by omega) (by omega) (by omega) (by omega) (by rw [hv,if_neg (by rw [hb]; simp)]) hH;refine qv hev ?_;refine zQ 2 ?_;refine EvC.ret ⟨rx,_,_,_,rfl,leaveD_rw (rfl),?_⟩;exact ⟨s7,hN,hH0.leaveRw1 hS2 (hH.erase 2)⟩
     | true =>
      have hsk := hsk hb;refine zQ 2 ?_;exact ⟨s6,_,rfl,hH,by omega,by omega,by omega,by omega, .inr ⟨by omega,by omega,by rw [hv,if_pos hb,hsk,show s6.g = s4.g by omega]⟩⟩
    ·have hg5 : (s5.e == 0) = false := by simpa using he5
     have hae : ¬ s5.e = 0 -> ErrX R pls s4 := fun h => by
      rcases a7 with a7 | a7
      ·exact a7.map fun e w hw => by rw [hv,hw]
      ·exact absurd (b4.trans a7.1) h
     refine zQ 14 ?_;exact ⟨s5,_,rfl,hH,b1,by omega,by omega,by omega, .inl ((hae he5).to b4 b5)⟩
   ·rintro fr st ⟨s6,tmp,hfr,hH,c1,c2,c3,c4,c5⟩;rw [hfr];clear hfr;generalize ixF_Tg fr = ee;clear fr;refine zQ 5 ?_
    cases free with
    | true =>
     refine zQ 6 ?_;refine EvC.ret ⟨rx,_,_,_,rfl,leaveD_rw (rfl),?_⟩;refine ⟨s6,⟨c1,c2,by omega,c4,l,rfl,a5,by omega,?_⟩,hH0.leaveRw1 hS2 (hH.erase 2)⟩
     rcases c5 with c5 | ⟨c5,c6,c7⟩
     ·exact .inl c5
     ·exact .inr ⟨c5,by rw [c7,if_pos rfl],by omega⟩
    | false =>
     refine zQ 4 ?_;refine EvO.hloadS (m := 7) hH rfl (ev rfl) (by exact at2) (by dsimp only [List.drop_succ_cons,List.drop_zero,List.take_succ_cons,List.take_zero,prsC,gotC,intC,rangeC,nodC] <;> rfl) rfl rfl (put_T rfl _) ?_;refine qh (s := 7) (vs := [_]) hH fun k89 st hk89 hH => ?_;dsimp only [u2,u1,u3,u4,setMany,u5,u6,D.cells,Nat.reduceAdd,prsC,gotC,intC,rangeC,nodC] at hH;refine qm ?_;refine EvO.happend5 (s := 7) hH rfl (ev rfl) (ev rfl) at0 ((nl_sl a5).rows st) rfl rfl rfl rfl rfl rfl rfl ⟨(Nat.le_of_ble_eq_true rfl),(Nat.le_of_ble_eq_true rfl)⟩ (fun _ => (put_T rfl _)) (by simp only [List.length_map,List.length_cons,List.length_nil]; omega) (.inr (nod_refs0 a5)) (fun k hk => by have hk' : k89 + 1 = k + 1 := hk; omega) (fun x91 st hod hH => ?_);dsimp only [u2] at hH;refine zQ 2 ?_;have hH : Has N S2 st (.lst x91 7 ([.int .i64 6, .nul, .int .i64 0, .int .i64 0, .bool false, .int .i64 cap, .int .i64 1] :: l.map nodC) :: .box k (.mem 0 false (prsC gs plD s6)) :: .lst plD 1 (pls.map intC) :: .box k5 (.mem 0 false [.int .i64 6, .nul, .int .i64 0, .int .i64 0, .bool false, .int .i64 cap, .int .i64 1]) :: H) := hH
     have hfz := has_freezeN (L := s0.bs.length) (l := mkNd 6 0 0 false cap 1 [] :: l) hH at0 (by rw [List.map_cons,nod_frz a5]; rfl) (fun e he d hd => by
      rcases List.mem_cons.1 he with rfl | he
      ·simp only [List.mem_cons,List.not_mem_nil,or_false] at hd
       rcases hd with rfl | rfl | rfl | rfl | rfl | rfl | rfl <;> rfl
      ·exact nod_tell a5 e he d hd) (fun k hk => by rw [<- hS2]; exact hod k hk) (n := 16) (by decide)
     refine EvC.ret ⟨rx,_,_,_,rfl,leaveD_rw hfz,⟨s6,⟨c1,c2,by omega,c4,_,rfl,?_,by simp only [List.length_cons]; omega,?_⟩,hH0.leaveRw1 hS2 ((hH.drop 1).erase 2)⟩⟩
     ·intro n hn
      rcases List.mem_cons.1 hn with rfl | hn
      ·exact ⟨rfl,by simp [mkNd],by simp [mkNd]⟩
      ·exact a5 n hn
     ·rcases c5 with c5 | ⟨c5,c6,c7⟩
      ·exact .inl c5
      ·exact .inr ⟨c5,by rw [c7,if_neg (by simp),e6,if_neg (by simp)],by simp only [List.length_cons]; omega⟩
def ixF_Th (fr : Go.V.Fr) (k : Nat) : Go.V.D := Go.V.nth .junk fr.loc k
noncomputable def oneR (r : Int) : List Rg := makeR [(r,r)]
noncomputable def atomG (A : PF) (gs : List (Nat × Nat)) (m i g : Nat) (r : Int) : PR (List Nod × Nat) :=
 if r = 40 then groupF A gs m i g
 else if r = 91 then clsR gs i g
 else if r = 92 then
  match signF gs i with
  | .er e w => .er e w
  | .ok (a,_) j => .ok ([clsN a],g) j
 else if r = 46 then .ok ([clsN dotR],g) (i + 1)
 else if r = 94 then .ok ([mkNd 7 0 0 false 0 0 []],g) (i + 1)
 else if r = 36 then .ok ([mkNd 8 0 0 false 0 0 []],g) (i + 1)
 else if r = 42 \/ r = 43 \/ r = 63 \/ r = 41 \/ r = 93 \/ r = 123 \/ r = 125 \/ r = 124 then .er 4 i
 else .ok ([clsN (oneR r)],g) (i + 1)
noncomputable def atomF (A : PF) (gs : List (Nat × Nat)) (m i g : Nat) : PR (List Nod × Nat) :=
 match gs[i]? with
 | none => .er 4 i
 | some q => if badS gs i = true then .er 4 i else atomG A gs m i g ((q.1 : Nat) : Int)
def repB (gs : List (Nat × Nat)) (l : List Nod) (g : Nat) (mn mx : Int) (j : Nat) : PR (List Nod × Nat) :=
 .ok (mkNd 5 mn mx (isS gs j 63) 0 1 [] :: l,g) (if isS gs j 63 = true then j + 1 else j)
noncomputable def repG (gs : List (Nat × Nat)) (l : List Nod) (g j : Nat) : PR (List Nod × Nat) :=
 if isS gs j 42 = true then repB gs l g 0 (-1) (j + 1)
 else if isS gs j 43 = true then repB gs l g 1 (-1) (j + 1)
 else if isS gs j 63 = true then repB gs l g 0 1 (j + 1)
 else if isS gs j 123 = true then
  match oftenF gs j with
  | .er e w => .er e w
  | .ok (mn,mx) j2 => repB gs l g mn mx j2
 else .ok (l,g) j
noncomputable def repF (A : PF) (gs : List (Nat × Nat)) (m i g : Nat) : PR (List Nod × Nat) :=
 match atomF A gs m i g with
 | .er e w => .er e w
 | .ok (l,g1) j => repG gs l g1 j
theorem atomX_ev {m : Nat} {gs : List (Nat × Nat)} {A : PF} (hA : ∀ m',m' + 1 = m -> AltX A gs m') {N k : Nat} {S s0 : St} {H : List Ent} {plD : D} {pls : List Int} {s : Prs} (hok : PrsOk gs pls) (he : s.e = 0) (hi : s.i < gs.length) (hg : s.g <= 4) (ho : s.o + m = 20) (hH : Has N S s0 (.box k (.mem 0 false (prsC gs plD s)) :: .lst plD 1 (pls.map intC) :: H)) :
  ∃ d st',Ev pv 50 [.ptr k 0 0] s0 d st' /\ ∃ (s' : Prs),NodesX gs pls (atomF A gs m s.i s.g) s s' d 2 /\ Has N S st' (.box k (.mem 0 false (prsC gs plD s')) :: .lst plD 1 (pls.map intC) :: H) := by
 have hgl := hok.gl;have hpl := hok.pl;refine Ev.mkE rfl fi50 rfl rfl rfl ?_;refine zE ?_;have hH0 := hH;have hH := hH.enterRw;have hS2 : (enterSt .rw s0).bs = s0.bs := rfl;generalize enterSt .rw s0 = S2 at *;have hgr : Arg N S2 2 (gotsD gs) (gs.map gotC) := Arg.pure (fun st => gots_rows st gs)
 obtain ⟨g,hgg⟩ : ∃ g,gs[s.i]? = some g := ⟨gs[s.i]'hi,List.getElem?_eq_getElem _⟩
 have hr1 : (gs.map gotC)[s.i]? = some (gotC g) := by rw [List.getElem?_map,hgg]; rfl
 obtain ⟨R,hR⟩ : ∃ R,atomF A gs m s.i s.g = R := ⟨_,rfl⟩
 rw [hR];unfold atomF at hR;rw [hgg] at hR;simp only at hR
 have hwr : ∀ (st : St),R = .er 4 s.i -> Has N S2 st (.box k (.mem 0 false (prsC gs plD s)) :: .lst plD 1 (pls.map intC) :: H) -> ∃ d st',Ev pv 17 [.ptr k 0 0, .int .i64 (s.i : Nat), .int .i64 4] st d st' /\ d = .sl [] /\ ∃ s4,NodesX gs pls R s s4 (.sl []) 2 /\ Has N S2 st' (.box k (.mem 0 false (prsC gs plD s4)) :: .lst plD 1 (pls.map intC) :: H) := by
  intro st hv hH;obtain ⟨d,st',hev,h6,hH⟩ := wrong_ev (s := s) s.i 4 (by omega) hH;obtain ⟨w1,w2,w3,w4⟩ := wrong_x (pls := pls) (s := s) (i := s.i) (e := 4) he (by decide) hv;exact ⟨d,st',hev,h6,_,nodesX_nil w3 (by omega) (by omega) (by omega) w1,hH⟩
 have hone : ∀ (st : St) (s1 : Prs) (op : Int) (w : D) (a : List Rg) (kk : Nat),(w = rangesV a \/ w = .nul /\ a = []) -> a.length <= 1048576 -> s1.o = s.o -> s1.g <= 4 -> s.i < s1.i -> s1.i <= gs.length -> s1.e = 0 -> R = .ok ([mkNd op 0 0 false 0 0 a],s1.g) s1.i -> S2.bs.length <= kk -> Has N S2 st (.lst (.win kk 0 0 1 7) 7 [[.int .i64 op,w, .int .i64 0, .int .i64 0, .bool false, .int .i64 0, .int .i64 0]] :: .box k (.mem 0 false (prsC gs plD s1)) :: .lst plD 1 (pls.map intC) :: H) ->
   ∃ d st',leaveD .rw false s0 st (.win kk 0 0 1 7) = some (d,st') /\ ∃ (s' : Prs),NodesX gs pls R s s' d 2 /\ Has N S st' (.box k (.mem 0 false (prsC gs plD s')) :: .lst plD 1 (pls.map intC) :: H) := by
  intro st s1 op w a kk hw ha h1 h2 h3 h4 he1 hv hk hH;have hfz := has_freeze1 hH at0 (L := s0.bs.length) hw (fun k hk => by simp only [D.ref] at hk; rw [<- hS2]; omega);refine ⟨_,_,leaveD_rw hfz,s1,⟨h1,h2,by omega,h4,_,rfl,mk_v ha (by omega),by simp,?_⟩,hH0.leaveRw1 hS2 (hH.drop 1)⟩;exact .inr ⟨he1,hv,by simp only [List.length_cons,List.length_nil]; omega⟩
 refine zQ 17 ?_;obtain ⟨_,st,hev,rfl,hH⟩ := bad_ev (s := s) s.i hi hH;refine qv hev ?_;refine zQ 1 ?_;refine qc (fun hb => ?_) (fun hb => ?_) <;> try simp only [cs] at hb
 ·rw [if_pos hb] at hR;refine zQ 4 ?_;obtain ⟨_,st,hev,rfl,s4,hN,hH⟩ := hwr _ hR.symm hH;refine qv hev ?_;refine zQ 2 ?_;refine EvC.ret ⟨rx,_,_,_,rfl,leaveD_rw (rfl),?_⟩;exact ⟨s4,hN,hH0.leaveRw1 hS2 hH⟩
 rw [if_neg (by rw [hb]; simp)] at hR;unfold atomG at hR;refine zQ 8 ?_;refine qr fun p22 hp22 => ?_;refine qf (fo := 0) fun p23 hp23 => ?_;refine zQ 13 ?_;refine zI (fun q40 => ?_) fun q40 => ?_
 ·rw [if_pos q40] at hR;refine zQ 3 ?_;obtain ⟨_,st,hev,s4,⟨p1,p2,p3,p4,l,rfl,p5,p6,p7⟩,hH⟩ := groupX_ev hA hok he hi hg ho hH;refine qv hev ?_;refine zQ 2 ?_;rw [hR] at p7;refine EvC.ret ⟨rx,_,_,_,rfl,leaveD_rw (rfl),?_⟩;exact ⟨s4,⟨p1,p2,p3,p4,l,rfl,p5,p6,p7⟩,hH0.leaveRw1 hS2 hH⟩
 rw [if_neg q40] at hR;refine zQ 5 ?_;refine zI (fun q91 => ?_) fun q91 => ?_
 ·rw [if_pos q91] at hR;refine zQ 3 ?_;obtain ⟨_,st,hev,s4,⟨p1,p2,p3,p4,l,rfl,p5,p6,p7⟩,hH⟩ := classX_ev hok he hi hg hH;refine qv hev ?_;refine zQ 2 ?_;rw [hR] at p7;refine EvC.ret ⟨rx,_,_,_,rfl,leaveD_rw (rfl),?_⟩;exact ⟨s4,⟨p1,p2,p3,p4,l,rfl,p5,p6,p7⟩,hH0.leaveRw1 hS2 hH⟩
 rw [if_neg q91] at hR;refine zQ 5 ?_;refine zI (fun q92 => ?_) fun q92 => ?_
 ·rw [if_pos q92] at hR;refine zQ 3 ?_;obtain ⟨_,st,hev,d1,b,s4,rfl,⟨p1,p2,p3,p4,p5⟩,hH⟩ := signX_ev (s := s) hok he hi hH;refine qv hev ?_;refine zQ 6 ?_
  have hend : ∀ (st : St) (w : D) (a : List Rg) (kk : Nat),(w = rangesV a \/ w = .nul /\ a = []) -> a.length <= 8 -> (ErrX R pls s4 \/ s4.e = 0 /\ s.i < s4.i /\ R = .ok ([clsN a],s4.g) s4.i) -> S2.bs.length <= kk -> Has N S2 st (.lst (.win kk 0 0 1 7) 7 [[.int .i64 2,w, .int .i64 0, .int .i64 0, .bool false, .int .i64 0, .int .i64 0]] :: .box k (.mem 0 false (prsC gs plD s4)) :: .lst plD 1 (pls.map intC) :: H) -> ∃ d st',leaveD .rw false s0 st (.win kk 0 0 1 7) = some (d,st') /\ ∃ (s' : Prs),NodesX gs pls R s s' d 2 /\ Has N S st' (.box k (.mem 0 false (prsC gs plD s')) :: .lst plD 1 (pls.map intC) :: H) := by
   intro st w a kk hw ha p6 hk hH;have hfz := has_freeze1 hH at0 (L := s0.bs.length) hw (fun k hk => by simp only [D.ref] at hk; rw [<- hS2]; omega);refine ⟨_,_,leaveD_rw hfz,s4,⟨p1,by omega,by omega,p4,_,rfl,mk_v (by omega) (by omega),by simp,?_⟩,hH0.leaveRw1 hS2 (hH.drop 1)⟩
   rcases p6 with p6 | ⟨p6,p7,p8⟩
   ·exact .inl p6
   ·exact .inr ⟨p6,p8,by simp only [List.length_cons,List.length_nil]; omega⟩
  rcases p5 with ⟨p5,rfl⟩ | ⟨p5,p6,a,p7,rfl,ha,_⟩
  ·refine zQ 3 ?_;refine EvO.ones (qs := [(0,_),(1,_)]) rfl rfl rfl rfl ⟨rfl,(ev rfl),(by rfl),rfl,(ev rfl),(by rfl),trivial⟩ (by intro q hq; simp only [List.mem_cons,List.not_mem_nil,or_false] at hq; rcases hq with rfl | rfl <;> exact ⟨rfl,by exact Nat.le_of_ble_eq_true rfl⟩) (by show List.foldl _ [_,_,_,_,_,_,_] _ = _; dsimp only [List.foldl_cons,List.foldl_nil,u2,u1] <;> rfl) (put_T rfl _) ?_;refine qh (s := 7) (vs := [_]) hH fun k54 st hk54 hH => ?_;dsimp only [u2,u1,u3,u4,setMany,u5,u6,D.cells,Nat.reduceAdd,prsC,gotC,intC,rangeC,nodC] at hH;refine zQ 2 ?_;obtain ⟨d',st',hld,hrest⟩ := hend _ .nul [] k54 (.inr ⟨rfl,rfl⟩) (by simp) (.inl (p5.map fun e w h => by rw [<- hR,h])) hk54 hH;refine EvC.ret ⟨rx,_,d',st',rfl,hld,hrest⟩
  ·refine zQ 3 ?_;refine EvO.ones (qs := [(0,_),(1,_)]) rfl rfl rfl rfl ⟨rfl,(ev rfl),(by rfl),rfl,(ev rfl),(by rfl),trivial⟩ (by intro q hq; simp only [List.mem_cons,List.not_mem_nil,or_false] at hq; rcases hq with rfl | rfl <;> exact ⟨rfl,by exact Nat.le_of_ble_eq_true rfl⟩) (by show List.foldl _ [_,_,_,_,_,_,_] _ = _; dsimp only [List.foldl_cons,List.foldl_nil,u2,u1] <;> rfl) (put_T rfl _) ?_;refine qh (s := 7) (vs := [_]) hH fun k54 st hk54 hH => ?_;dsimp only [u2,u1,u3,u4,setMany,u5,u6,D.cells,Nat.reduceAdd,prsC,gotC,intC,rangeC,nodC] at hH;refine zQ 2 ?_;obtain ⟨d',st',hld,hrest⟩ := hend _ (rangesV a) a k54 (.inl rfl) ha (.inr ⟨p5,p6,by rw [<- hR,p7,p2]⟩) hk54 hH;refine EvC.ret ⟨rx,_,d',st',rfl,hld,hrest⟩
 rw [if_neg q92] at hR;refine zQ 5 ?_;refine zI (fun q46 => ?_) fun q46 => ?_
 ·rw [if_pos q46] at hR;refine zQ 9 ?_;refine qT hH at0 fun st hH => ?_;dsimp only [u2,u1,u3,u4,setMany,u5,u6,D.cells,Nat.reduceAdd,prsC,gotC,intC,rangeC,nodC] at hH;refine zQ 1 ?_;obtain ⟨hdot,hla⟩ := dotX_ev (s0 := st);refine zQ 2 ?_;refine qv (hdot) ?_;refine EvO.ones (qs := [(0,_),(1,_)]) rfl rfl rfl rfl ⟨rfl,(ev rfl),(by rfl),rfl,(ev rfl),(by rfl),trivial⟩ (by intro q hq; simp only [List.mem_cons,List.not_mem_nil,or_false] at hq; rcases hq with rfl | rfl <;> exact ⟨rfl,by exact Nat.le_of_ble_eq_true rfl⟩) (by show List.foldl _ [_,_,_,_,_,_,_] _ = _; dsimp only [List.foldl_cons,List.foldl_nil,u2,u1] <;> rfl) (put_T rfl _) ?_;refine qh (s := 7) (vs := [_]) hH fun k66 st hk66 hH => ?_;refine zQ 2 ?_;obtain ⟨d',st',hld,hrest⟩ := hone _ { s with i := s.i + 1 } 2 (rangesV dotR) dotR k66 (.inl rfl) (by omega) rfl hg (by show s.i < s.i + 1; omega) (by show s.i + 1 <= _; omega) he hR.symm hk66 hH;refine EvC.ret ⟨rx,_,d',st',rfl,hld,hrest⟩
 rw [if_neg q46] at hR;refine zQ 5 ?_;refine zI (fun q94 => ?_) fun q94 => ?_
 ·rw [if_pos q94] at hR;refine zQ 9 ?_;refine qT hH at0 fun st hH => ?_;dsimp only [u2,u1,u3,u4,setMany,u5,u6,D.cells,Nat.reduceAdd,prsC,gotC,intC,rangeC,nodC] at hH;refine zQ 3 ?_;refine EvO.go (d := .agg [.int .i64 7, .nul, .int .i64 0, .int .i64 0, .bool false, .int .i64 0, .int .i64 0]) (st1 := _) rfl rfl rfl (put_T rfl _) ?_;refine qh (s := 7) (vs := [_]) hH fun k77 st hk77 hH => ?_;refine zQ 2 ?_;obtain ⟨d',st',hld,hrest⟩ := hone _ { s with i := s.i + 1 } 7 .nul [] k77 (.inr ⟨rfl,rfl⟩) (by simp) rfl hg (by show s.i < s.i + 1; omega) (by show s.i + 1 <= _; omega) he hR.symm hk77 hH;refine EvC.ret ⟨rx,_,d',st',rfl,hld,hrest⟩
 rw [if_neg q94] at hR;refine zQ 5 ?_;refine zI (fun q36 => ?_) fun q36 => ?_
 ·rw [if_pos q36] at hR;refine zQ 9 ?_;refine qT hH at0 fun st hH => ?_;dsimp only [u2,u1,u3,u4,setMany,u5,u6,D.cells,Nat.reduceAdd,prsC,gotC,intC,rangeC,nodC] at hH;refine zQ 3 ?_;refine EvO.go (d := .agg [.int .i64 8, .nul, .int .i64 0, .int .i64 0, .bool false, .int .i64 0, .int .i64 0]) (st1 := _) rfl rfl rfl (put_T rfl _) ?_;refine qh (s := 7) (vs := [_]) hH fun k88 st hk88 hH => ?_;refine zQ 2 ?_;obtain ⟨d',st',hld,hrest⟩ := hone _ { s with i := s.i + 1 } 8 .nul [] k88 (.inr ⟨rfl,rfl⟩) (by simp) rfl hg (by show s.i < s.i + 1; omega) (by show s.i + 1 <= _; omega) he hR.symm hk88 hH;refine EvC.ret ⟨rx,_,d',st',rfl,hld,hrest⟩
 rw [if_neg q36] at hR;have hbad : ((((g.1 : Nat) : Int)) = 42 \/ (((g.1 : Nat) : Int)) = 43 \/ (((g.1 : Nat) : Int)) = 63 \/ (((g.1 : Nat) : Int)) = 41 \/ (((g.1 : Nat) : Int)) = 93 \/ (((g.1 : Nat) : Int)) = 123 \/ (((g.1 : Nat) : Int)) = 125 \/ (((g.1 : Nat) : Int)) = 124) -> R = .er 4 s.i := fun h => by rw [<- hR,if_pos h]
 refine zQ 6 ?_
 by_cases c42 : ((g.1 : Nat) : Int) = 42
 ·refine qD rfl (by simp [c42]) ?_;refine zQ 1 ?_;refine qD rfl (by simp [c42]) ?_;refine zQ 4 ?_;obtain ⟨_,st,hev,rfl,s4,hN,hH⟩ := hwr _ (hbad (by omega)) hH;refine qv hev ?_;refine zQ 2 ?_;refine EvC.ret ⟨rx,_,_,_,rfl,leaveD_rw (rfl),?_⟩;exact ⟨s4,hN,hH0.leaveRw1 hS2 hH⟩
 refine qE rfl (by simp [c42]) ?_;refine zQ 5 ?_
 by_cases c43 : ((g.1 : Nat) : Int) = 43
 ·refine qD rfl (by simp [c43]) ?_;refine zQ 1 ?_;refine qD rfl (by simp [c43]) ?_;refine zQ 4 ?_;obtain ⟨_,st,hev,rfl,s4,hN,hH⟩ := hwr _ (hbad (by omega)) hH;refine qv hev ?_;refine zQ 2 ?_;refine EvC.ret ⟨rx,_,_,_,rfl,leaveD_rw (rfl),?_⟩;exact ⟨s4,hN,hH0.leaveRw1 hS2 hH⟩
 refine qE rfl (by simp [c43]) ?_;refine zQ 5 ?_
 by_cases c63 : ((g.1 : Nat) : Int) = 63
 ·refine qD rfl (by simp [c63]) ?_;refine zQ 1 ?_;refine qD rfl (by simp [c63]) ?_;refine zQ 4 ?_;obtain ⟨_,st,hev,rfl,s4,hN,hH⟩ := hwr _ (hbad (by omega)) hH;refine qv hev ?_;refine zQ 2 ?_;refine EvC.ret ⟨rx,_,_,_,rfl,leaveD_rw (rfl),?_⟩;exact ⟨s4,hN,hH0.leaveRw1 hS2 hH⟩
 refine qE rfl (by simp [c63]) ?_;refine zQ 5 ?_
 by_cases c41 : ((g.1 : Nat) : Int) = 41
 ·refine qD rfl (by simp [c41]) ?_;refine zQ 1 ?_;refine qD rfl (by simp [c41]) ?_;refine zQ 4 ?_;obtain ⟨_,st,hev,rfl,s4,hN,hH⟩ := hwr _ (hbad (by omega)) hH;refine qv hev ?_;refine zQ 2 ?_;refine EvC.ret ⟨rx,_,_,_,rfl,leaveD_rw (rfl),?_⟩;exact ⟨s4,hN,hH0.leaveRw1 hS2 hH⟩
 refine qE rfl (by simp [c41]) ?_;refine zQ 5 ?_
 by_cases c93 : ((g.1 : Nat) : Int) = 93
 ·refine qD rfl (by simp [c93]) ?_;refine zQ 1 ?_;refine qD rfl (by simp [c93]) ?_;refine zQ 4 ?_;obtain ⟨_,st,hev,rfl,s4,hN,hH⟩ := hwr _ (hbad (by omega)) hH;refine qv hev ?_;refine zQ 2 ?_;refine EvC.ret ⟨rx,_,_,_,rfl,leaveD_rw (rfl),?_⟩;exact ⟨s4,hN,hH0.leaveRw1 hS2 hH⟩
 refine qE rfl (by simp [c93]) ?_;refine zQ 5 ?_
 by_cases c123 : ((g.1 : Nat) : Int) = 123
 ·refine qD rfl (by simp [c123]) ?_;refine zQ 1 ?_;refine qD rfl (by simp [c123]) ?_;refine zQ 4 ?_;obtain ⟨_,st,hev,rfl,s4,hN,hH⟩ := hwr _ (hbad (by omega)) hH;refine qv hev ?_;refine zQ 2 ?_;refine EvC.ret ⟨rx,_,_,_,rfl,leaveD_rw (rfl),?_⟩;exact ⟨s4,hN,hH0.leaveRw1 hS2 hH⟩
 refine qE rfl (by simp [c123]) ?_;refine zQ 5 ?_
 by_cases c125 : ((g.1 : Nat) : Int) = 125
 ·refine qD rfl (by simp [c125]) ?_;refine zQ 1 ?_;refine qD rfl (by simp [c125]) ?_;refine zQ 4 ?_;obtain ⟨_,st,hev,rfl,s4,hN,hH⟩ := hwr _ (hbad (by omega)) hH;refine qv hev ?_;refine zQ 2 ?_;refine EvC.ret ⟨rx,_,_,_,rfl,leaveD_rw (rfl),?_⟩;exact ⟨s4,hN,hH0.leaveRw1 hS2 hH⟩
 refine qE rfl (by simp [c125]) ?_;refine zQ 4 ?_
 by_cases c124 : ((g.1 : Nat) : Int) = 124
 ·refine qD rfl (by simp [c124]) ?_;refine zQ 4 ?_;obtain ⟨_,st,hev,rfl,s4,hN,hH⟩ := hwr _ (hbad (by omega)) hH;refine qv hev ?_;refine zQ 2 ?_;refine EvC.ret ⟨rx,_,_,_,rfl,leaveD_rw (rfl),?_⟩;exact ⟨s4,hN,hH0.leaveRw1 hS2 hH⟩
 refine qE rfl (by simp [c124]) ?_;rw [if_neg (by omega)] at hR;refine zQ 9 ?_;refine qT hH at0 fun st hH => ?_;dsimp only [u2,u1,u3,u4,setMany,u5,u6,D.cells,Nat.reduceAdd,prsC,gotC,intC,rangeC,nodC] at hH;refine zQ 1 ?_;obtain ⟨_,hml,_⟩ := mk_ev (s0 := s0) (x := rangesV [(((g.1 : Nat) : Int),((g.1 : Nat) : Int))]) (l := [(((g.1 : Nat) : Int),((g.1 : Nat) : Int))]) (rangesV_rows _ _) (by simp);simp only [List.length_cons,List.length_nil] at hml;refine zQ 3 ?_;refine qv (single_ev _) ?_;refine EvO.ones (qs := [(0,_),(1,_)]) rfl rfl rfl rfl ⟨rfl,(ev rfl),(by rfl),rfl,(ev rfl),(by rfl),trivial⟩ (by intro q hq; simp only [List.mem_cons,List.not_mem_nil,or_false] at hq; rcases hq with rfl | rfl <;> exact ⟨rfl,by exact Nat.le_of_ble_eq_true rfl⟩) (by show List.foldl _ [_,_,_,_,_,_,_] _ = _; dsimp only [List.foldl_cons,List.foldl_nil,u2,u1] <;> rfl) (put_T rfl _) ?_;refine qh (s := 7) (vs := [_]) hH fun k36 st hk36 hH => ?_;refine zQ 2 ?_;obtain ⟨d',st',hld,hrest⟩ := hone _ { s with i := s.i + 1 } 2 _ (makeR [(((g.1 : Nat) : Int),((g.1 : Nat) : Int))]) k36 (.inl rfl) (by omega) rfl hg (by show s.i < s.i + 1; omega) (by show s.i + 1 <= _; omega) he hR.symm hk36 hH;refine EvC.ret ⟨rx,_,d',st',rfl,hld,hrest⟩
theorem repX_ev {m : Nat} {gs : List (Nat × Nat)} {A : PF} (hA : ∀ m',m' + 1 = m -> AltX A gs m') {N k : Nat} {S s0 : St} {H : List Ent} {plD : D} {pls : List Int} {s : Prs} (hok : PrsOk gs pls) (he : s.e = 0) (hi : s.i < gs.length) (hg : s.g <= 4) (ho : s.o + m = 20) (hH : Has N S s0 (.box k (.mem 0 false (prsC gs plD s)) :: .lst plD 1 (pls.map intC) :: H)) :
  ∃ d st',Ev pv 45 [.ptr k 0 0] s0 d st' /\ ∃ (s' : Prs),NodesX gs pls (repF A gs m s.i s.g) s s' d 1 /\ Has N S st' (.box k (.mem 0 false (prsC gs plD s')) :: .lst plD 1 (pls.map intC) :: H) := by
 have hgl := hok.gl;have hpl := hok.pl;refine Ev.mkE rfl fi45 rfl rfl rfl ?_;refine zE ?_;have hH0 := hH;have hH := hH.enterRw;have hS2 : (enterSt .rw s0).bs = s0.bs := rfl;generalize enterSt .rw s0 = S2 at *
 obtain ⟨R,hR⟩ : ∃ R,repF A gs m s.i s.g = R := ⟨_,rfl⟩
 rw [hR];unfold repF at hR;refine zQ 7 ?_;obtain ⟨_,st,hev,s1,⟨p1,p2,p3,p4,l,rfl,p5,p6,p7⟩,hH⟩ := atomX_ev hA hok he hi hg ho hH;refine qv hev ?_;refine zQ 11 ?_
 rcases p7 with p7 | ⟨p7,p9,p8⟩
 ·have hne := p7.ne;refine qD rfl (by simp [hne]) ?_;refine zQ 4 ?_;refine EvC.ret ⟨rx,_,_,_,rfl,leaveD_rw (rfl),?_⟩;exact ⟨s1,nodesX_nil p1 p2 p3 p4 (p7.map fun e w h => by rw [<- hR,h]),hH0.leaveRw1 hS2 hH⟩
 rw [p9] at hR;simp only at hR;unfold repG at hR;refine qE rfl (by simp [p7]) ?_;refine zQ 3 ?_;refine EvO.go (d := .agg [.int .i64 5, .nul, .int .i64 0, .int .i64 0, .bool false, .int .i64 0, .int .i64 1]) (st1 := _) rfl rfl rfl (put_T rfl _) ?_;refine qa hH fun k4 st hk4 hH => ?_;dsimp only [u2,u1,u3,u4,setMany,u5,u6,D.cells,Nat.reduceAdd,prsC,gotC,intC,rangeC,nodC] at hH;refine qS hH at0 fun st hH => ?_;dsimp only [u2,u1,u3,u4,setMany,u5,u6,D.cells,Nat.reduceAdd,prsC,gotC,intC,rangeC,nodC] at hH;refine zQ 1 ?_;have hH : Has N S2 st (.box k (.mem 0 false (prsC gs plD s1)) :: .lst plD 1 (pls.map intC) :: .box k4 (.mem 0 false [.int .i64 5, .nul, .int .i64 0, .int .i64 0, .bool false, .int .i64 0, .int .i64 1]) :: H) := Has_rot3 hH;refine qq ?_;refine EvC.merge (fun fr st => ∃ (mn mx : Int) (s2 : Prs) (tmp : List (Nat × D)),fr = ⟨5, [.ptr k 0 0,ixF_Th fr 1,ixF_Th fr 2,nlD l, .ptr k4 0 0],tmp⟩ /\ Has N S2 st (.box k (.mem 0 false (prsC gs plD s2)) :: .lst plD 1 (pls.map intC) :: .box k4 (.mem 0 false [.int .i64 5, .nul, .int .i64 mn, .int .i64 mx, .bool false, .int .i64 0, .int .i64 1]) :: H) /\ (s2.o = s.o) /\ (s2.g <= 4) /\ (s1.i < s2.i) /\ (s2.i <= gs.length) /\ (ErrX R pls s2 \/ s2.e = 0 /\ R = repB gs l s2.g mn mx s2.i)) ?_ ?_
 ·refine zQ 4 ?_;obtain ⟨_,st,hev,rfl,hH⟩ := skip_ev (s := s1) (by omega) 42 hH;refine qv hev ?_;refine zQ 2 ?_
  cases hb1 : isS gs s1.i 42 with
  | true =>
   obtain ⟨k1,k2,k3,k4',k5⟩ := skip_i (gs := gs) (s := s1) (r := 42);have k6 := skip_yes hb1;have k7 := k5 p4;generalize skipS gs s1 42 = s2 at *;refine zQ 3 ?_;refine qT hH at2 fun st hH => ?_;dsimp only [u2,u1,u3,u4,setMany,u5,u6,D.cells,Nat.reduceAdd,prsC,gotC,intC,rangeC,nodC] at hH;refine zQ 1 ?_;exact ⟨0, -1,s2,_,rfl,hH,by omega,by omega,by omega,k7, .inr ⟨by omega,by rw [<- hR,if_pos hb1,k6,show s2.g = s1.g by omega]⟩⟩
  | false =>
   rw [skip_no hb1] at hH;rw [if_neg (by rw [hb1]; simp)] at hR;refine zQ 4 ?_;obtain ⟨_,st,hev,rfl,hH⟩ := skip_ev (s := s1) (by omega) 43 hH;refine qv hev ?_;refine zQ 2 ?_
   cases hb2 : isS gs s1.i 43 with
   | true =>
    obtain ⟨k1,k2,k3,k4',k5⟩ := skip_i (gs := gs) (s := s1) (r := 43);have k6 := skip_yes hb2;have k7 := k5 p4;generalize skipS gs s1 43 = s2 at *;refine zQ 3 ?_;refine qT hH at2 fun st hH => ?_;dsimp only [u2,u1,u3,u4,setMany,u5,u6,D.cells,Nat.reduceAdd,prsC,gotC,intC,rangeC,nodC] at hH;refine zQ 1 ?_;refine qT hH at2 fun st hH => ?_;dsimp only [u2,u1,u3,u4,setMany,u5,u6,D.cells,Nat.reduceAdd,prsC,gotC,intC,rangeC,nodC] at hH;refine zQ 1 ?_;exact ⟨1, -1,s2,_,rfl,hH,by omega,by omega,by omega,k7, .inr ⟨by omega,by rw [<- hR,if_pos hb2,k6,show s2.g = s1.g by omega]⟩⟩
   | false =>
    rw [skip_no hb2] at hH;rw [if_neg (by rw [hb2]; simp)] at hR;refine zQ 4 ?_;obtain ⟨_,st,hev,rfl,hH⟩ := skip_ev (s := s1) (by omega) 63 hH;refine qv hev ?_;refine zQ 2 ?_
    cases hb3 : isS gs s1.i 63 with
    | true =>
     obtain ⟨k1,k2,k3,k4',k5⟩ := skip_i (gs := gs) (s := s1) (r := 63);have k6 := skip_yes hb3;have k7 := k5 p4;generalize skipS gs s1 63 = s2 at *;refine zQ 3 ?_;refine qT hH at2 fun st hH => ?_;dsimp only [u2,u1,u3,u4,setMany,u5,u6,D.cells,Nat.reduceAdd,prsC,gotC,intC,rangeC,nodC] at hH;refine zQ 1 ?_;exact ⟨0,1,s2,_,rfl,hH,by omega,by omega,by omega,k7, .inr ⟨by omega,by rw [<- hR,if_pos hb3,k6,show s2.g = s1.g by omega]⟩⟩
    | false =>
     rw [skip_no hb3] at hH;rw [if_neg (by rw [hb3]; simp)] at hR;refine zQ 4 ?_;obtain ⟨_,st,hev,rfl,hH⟩ := is_ev (s := s1) (by omega) 123 hH;refine qv hev ?_;refine zQ 2 ?_
     cases hb4 : isS gs s1.i 123 with
     | true =>
      have hlt := isS_lt hb4;refine zQ 3 ?_;obtain ⟨_,st,hev,n1,n2,s2,rfl,⟨⟨m1,m2,m3,m4⟩,m5⟩,hH⟩ := oftenX_ev hok p7 hlt hH;refine qv hev ?_;refine zQ 4 ?_;refine qT hH at2 fun st hH => ?_;dsimp only [u2,u1,u3,u4,setMany,u5,u6,D.cells,Nat.reduceAdd,prsC,gotC,intC,rangeC,nodC] at hH;refine zQ 1 ?_;refine qT hH at2 fun st hH => ?_;dsimp only [u2,u1,u3,u4,setMany,u5,u6,D.cells,Nat.reduceAdd,prsC,gotC,intC,rangeC,nodC] at hH;refine zQ 1 ?_;rw [if_pos hb4] at hR
      have h5 : ErrX R pls s2 \/ s2.e = 0 /\ R = repB gs l s2.g n1 n2 s2.i := by
       rcases m5 with m5 | ⟨m5,m6⟩
       ·exact .inl (m5.map fun e w h => by rw [<- hR,h])
       ·exact .inr ⟨m5,by rw [<- hR,m6,m2]⟩
      exact ⟨n1,n2,s2,_,rfl,hH,by omega,by omega,m3,m4,h5⟩
     | false =>
      rw [if_neg (by rw [hb4]; simp)] at hR;refine zQ 6 ?_;refine EvC.ret ⟨rx,_,_,_,rfl,leaveD_rw (rfl),?_⟩;exact ⟨s1,⟨p1,p2,p3,p4,l,rfl,p5,p6, .inr ⟨p7,hR.symm,by omega⟩⟩,hH0.leaveRw1 hS2 (hH.erase 2)⟩
 ·rintro fr st ⟨mn,mx,s2,tmp,hfr,hH,h1,h2,h3,h4,h5⟩;rw [hfr];clear hfr;generalize ixF_Th fr = ee;clear fr;refine zQ 9 ?_
  by_cases he2 : s2.e = 0
  ·refine qE rfl (by simp [he2]) ?_;refine zQ 1 ?_;obtain ⟨k1,k2,k3,k4',k5⟩ := skip_i (gs := gs) (s := s2) (r := 63);have k7 := k5 h4
   have h6 : R = repB gs l s2.g mn mx s2.i := by
    rcases h5 with h5 | h5
    ·exact absurd he2 h5.ne
    ·exact h5.2
   have hsi : (skipS gs s2 63).i = if isS gs s2.i 63 = true then s2.i + 1 else s2.i := by unfold skipS; split <;> rfl
   unfold repB at h6;rw [<- hsi] at h6;clear hsi;refine zQ 3 ?_;obtain ⟨_,st,hev,rfl,hH⟩ := skip_ev (s := s2) (by omega) 63 hH;refine qv hev ?_;refine zQ 1 ?_;refine qT hH at2 fun st hH => ?_;dsimp only [u2,u1,u3,u4,setMany,u5,u6,D.cells,Nat.reduceAdd,prsC,gotC,intC,rangeC,nodC] at hH;refine zQ 1 ?_;generalize skipS gs s2 63 = s3 at *;generalize isS gs s2.i 63 = lz at *;have hla := (nl_sl p5).arg N S2;refine zQ 2 ?_;refine EvO.hloadS (m := 7) hH rfl (ev rfl) (by exact at2) (by dsimp only [List.drop_succ_cons,List.drop_zero,List.take_succ_cons,List.take_zero,prsC,gotC,intC,rangeC,nodC] <;> rfl) rfl rfl (put_T rfl _) ?_;refine qh (s := 7) (vs := [_]) hH fun k46 st hk46 hH => ?_;refine qm ?_;refine EvO.happend5 (s := 7) hH rfl (ev rfl) (ev rfl) at0 ((nl_sl p5).rows st) rfl rfl rfl rfl rfl rfl rfl ⟨(Nat.le_of_ble_eq_true rfl),(Nat.le_of_ble_eq_true rfl)⟩ (fun _ => (put_T rfl _)) (by simp only [List.length_map,List.length_cons,List.length_nil]; omega) (.inr (nod_refs0 p5)) (fun k hk => by have hk' : k46 + 1 = k + 1 := hk; omega) (fun x48 st hod hH => ?_);dsimp only [u2] at hH;refine zQ 2 ?_;have hH : Has N S2 st (.lst x48 7 ([.int .i64 5, .nul, .int .i64 mn, .int .i64 mx, .bool lz, .int .i64 0, .int .i64 1] :: l.map nodC) :: .box k (.mem 0 false (prsC gs plD s3)) :: .lst plD 1 (pls.map intC) :: .box k4 (.mem 0 false [.int .i64 5, .nul, .int .i64 mn, .int .i64 mx, .bool lz, .int .i64 0, .int .i64 1]) :: H) := hH
   have hfz := has_freezeN (L := s0.bs.length) (l := mkNd 5 mn mx lz 0 1 [] :: l) hH at0 (by rw [List.map_cons,nod_frz p5]; rfl) (fun e he d hd => by
    rcases List.mem_cons.1 he with rfl | he
    ·simp only [List.mem_cons,List.not_mem_nil,or_false] at hd
     rcases hd with rfl | rfl | rfl | rfl | rfl | rfl | rfl <;> rfl
    ·exact nod_tell p5 e he d hd) (fun k hk => by rw [<- hS2]; exact hod k hk) (n := 16) (by decide)
   refine EvC.ret ⟨rx,_,_,_,rfl,leaveD_rw hfz,⟨s3,⟨by omega,by omega,by omega,k7,_,rfl,?_,by simp only [List.length_cons]; omega, .inr ⟨by omega,by rw [h6,show s3.g = s2.g by omega],by simp only [List.length_cons]; omega⟩⟩,hH0.leaveRw1 hS2 ((hH.drop 1).erase 2)⟩⟩;intro n hn
   rcases List.mem_cons.1 hn with rfl | hn
   ·exact ⟨rfl,by simp [mkNd],by simp [mkNd]⟩
   ·exact p5 n hn
  ·refine qD rfl (by simp [he2]) ?_;refine zQ 4 ?_;refine EvC.ret ⟨rx,_,_,_,rfl,leaveD_rw (rfl),?_⟩;exact ⟨s2,nodesX_nil h1 h2 (by omega) h4 (h5.resolve_right fun h => he2 h.1),hH0.leaveRw1 hS2 (hH.erase 2)⟩
def ixF_Ti (fr : Go.V.Fr) (k : Nat) : Go.V.D := Go.V.nth .junk fr.loc k
noncomputable def catL (A : PF) (gs : List (Nat × Nat)) (m : Nat) : Nat -> Nat -> Nat -> List (List Nod) -> PR (List Nod × Nat)
 | 0,i,g,ps => .ok (joinS 3 ps,g) i
 | n + 1,i,g,ps =>
  if i < gs.length /\ isS gs i 124 = false /\ (isS gs i 41 = false \/ m = 20) then
   match repF A gs m i g with
   | .er e w => .er e w
   | .ok (l,g2) j => catL A gs m n j g2 (ps ++ [l])
  else .ok (joinS 3 ps,g) i
noncomputable def catF (A : PF) (gs : List (Nat × Nat)) (m i g : Nat) : PR (List Nod × Nat) := catL A gs m (gs.length + 1) i g []
noncomputable def altL (A : PF) (gs : List (Nat × Nat)) (m : Nat) : Nat -> Nat -> Nat -> List (List Nod) -> PR (List Nod × Nat)
 | 0,i,g,ps => .ok (joinS 4 ps,g) i
 | n + 1,i,g,ps =>
  if isS gs i 124 = true then
   match catF A gs m (i + 1) g with
   | .er e w => .er e w
   | .ok (l,g2) j => altL A gs m n j g2 (ps ++ [l])
  else .ok (joinS 4 ps,g) i
noncomputable def altB (A : PF) (gs : List (Nat × Nat)) (m : Nat) : PF := fun i g =>
 match catF A gs m i g with
 | .er e w => .er e w
 | .ok (l,g1) j => altL A gs m (gs.length + 1) j g1 [l]
noncomputable def altF (gs : List (Nat × Nat)) : Nat -> PF
 | 0 => altB (fun i _ => .er 10 i) gs 0
 | m + 1 => altB (altF gs m) gs (m + 1)
theorem catX_ev {m : Nat} {gs : List (Nat × Nat)} {A : PF} (hA : ∀ m',m' + 1 = m -> AltX A gs m') {N k : Nat} {S s0 : St} {H : List Ent} {plD : D} {pls : List Int} {s : Prs} (hok : PrsOk gs pls) (he : s.e = 0) (hi : s.i <= gs.length) (hg : s.g <= 4) (ho : s.o + m = 20) (hH : Has N S s0 (.box k (.mem 0 false (prsC gs plD s)) :: .lst plD 1 (pls.map intC) :: H)) :
  ∃ d st',Ev pv 33 [.ptr k 0 0] s0 d st' /\ ∃ (s' : Prs),NodesXQ gs pls (catF A gs m s.i s.g) s s' d /\ Has N S st' (.box k (.mem 0 false (prsC gs plD s')) :: .lst plD 1 (pls.map intC) :: H) := by
 have hgl := hok.gl;have hpl := hok.pl;refine Ev.mkE rfl fi33 rfl rfl rfl ?_;refine zE ?_;have hH0 := hH;have hH := hH.enterRw;have hS2 : (enterSt .rw s0).bs = s0.bs := rfl;generalize enterSt .rw s0 = S2 at *
 obtain ⟨R,hR⟩ : ∃ R,catF A gs m s.i s.g = R := ⟨_,rfl⟩
 rw [hR];unfold catF at hR;have hgr : Arg N S2 2 (gotsD gs) (gs.map gotC) := Arg.pure (fun st => gots_rows st gs);refine zQ 8 ?_;have hH : Has N S2 S2 (.box k (.mem 0 false (prsC gs plD s)) :: .lst plD 1 (pls.map intC) :: .lst .nul 1 (([] : List (List Nod)).map partC) :: H) := Has_rot3 (hH.nulE 1);refine zQ 2 ?_;refine EvC.loop (fun mm fr st => ∃ (s1 : Prs) (pd : D) (parts : List (List Nod)),fr.clean = ⟨4, [.ptr k 0 0,ixF_Ti fr 1,ixF_Ti fr 2,pd], []⟩ /\ Has N S2 st (.box k (.mem 0 false (prsC gs plD s1)) :: .lst plD 1 (pls.map intC) :: .lst pd 1 (parts.map partC) :: H) /\ (s1.o = s.o) /\ (s1.g <= 4) /\ (s.i <= s1.i) /\ (s1.i <= gs.length) /\ (∀ l ∈ parts, ∀ n ∈ l,NdV n) /\ (sumL parts + parts.length <= 4 * (s1.i - s.i) + 2) /\ (s1.e = 0 -> sumL parts + parts.length <= 4 * (s1.i - s.i)) /\ (ErrX R pls s1 \/ s1.e = 0 /\ ∃ n,gs.length - s1.i < n /\ catL A gs m n s1.i s1.g parts = R) /\ (gs.length - s1.i + (if s1.e = 0 then 1 else 0) <= mm)) (gs.length + 1) ?_ ?_
 ·exact ⟨s, .nul, [],rfl,hH,rfl,hg,Nat.le_refl _,hi,fun l hl => (by cases hl),by simp [sumL],fun _ => by simp [sumL], .inr ⟨he,gs.length + 1,by omega,hR⟩,by split <;> omega⟩
 rintro mm fr st ⟨s1,pd,parts,hfr,hH,h1,h2,h3,h4,h5,h6,h7,h8,hmm⟩;rw [hfr];clear hfr;generalize ixF_Ti fr = ee;clear fr
 have hexit : ∀ st : St,(ErrX R pls s1 \/ s1.e = 0 /\ R = .ok (joinS 3 parts,s1.g) s1.i) -> Has N S2 st (.box k (.mem 0 false (prsC gs plD s1)) :: .lst plD 1 (pls.map intC) :: .lst pd 1 (parts.map partC) :: H) -> ∃ d,Ev pv 35 [.int .i64 3,pd] st d st /\ NodesXQ gs pls R s s1 d /\ ∃ l,d = nlD l := by
  intro st hv hH;obtain ⟨hev,j1,j2,j3⟩ := joinedX_ev 3 (hH.rows at2) h5 (by omega) (by omega);refine ⟨_,hev,⟨h1,h2,h3,h4,joinS 3 parts,rfl,j1,?_,hv⟩,_,rfl⟩
  by_cases q1 : parts.length = 1
  ·have := j2 q1; omega
  ·by_cases q0 : parts.length = 0
   ·have : parts = [] := List.length_eq_zero_iff.1 q0;rw [this];show 1 <= _;omega
   ·omega
 by_cases he1 : s1.e = 0
 ·obtain ⟨n,hn1,hn2⟩ := (h8.resolve_left fun h => absurd he1 h.ne).2
  obtain ⟨n,rfl⟩ : ∃ m,n = m + 1 := ⟨n - 1,by omega⟩
  unfold catL at hn2;rw [if_pos he1] at hmm;have h7 := h7 he1;have hg5 : (s1.e == 0) = true := by simpa using he1
  by_cases hlt : s1.i < gs.length
  ·have hg17 : decide (((s1.i : Nat) : Int) < ((gs.length : Nat) : Int)) = true := by rw [decide_eq_true_eq]; omega
   cases hg22 : (!isS gs s1.i 124) with
   | false =>
    refine zQ 17 ?_;refine qn ?_ (hg := wi hg5);simp only [List.length_map];refine zQ 4 ?_;obtain ⟨_,st,hev,rfl,hH⟩ := is_ev (s := s1) (by omega) 124 hH;refine qv hev ?_ (hg := wi hg17);refine zQ 17 ?_;obtain ⟨_,hjo,hQ,l,rfl⟩ := hexit _ (.inr ⟨he1,by rw [<- hn2,if_neg (fun h => by rw [h.2.1] at hg22; simp at hg22)]⟩) hH;refine zQ 3 ?_;refine qv (hjo) ?_;refine zQ 2 ?_;refine EvC.ret ⟨rx,_,_,_,rfl,leaveD_rw (rfl),?_⟩;exact ⟨s1,hQ,hH0.leaveRw1 hS2 (hH.erase 2)⟩
   | true =>
    cases hg25 : isS gs s1.i 41 with
    | false =>
     refine zQ 17 ?_;refine qn ?_ (hg := wi hg5);simp only [List.length_map];refine zQ 4 ?_;obtain ⟨_,st,hev,rfl,hH⟩ := is_ev (s := s1) (by omega) 124 hH;refine qv hev ?_ (hg := wi hg17);refine zQ 4 ?_;obtain ⟨_,st,hev,rfl,hH⟩ := is_ev (s := s1) (by omega) 41 hH;refine qv hev ?_ (hg := wi hg22);refine zQ 6 ?_;refine EvO.pickF (wantD_is rfl rfl rfl hg22) rfl hg25 (put_T rfl _) ?_;refine zQ 6 ?_;rw [if_pos ⟨hlt,by simpa using hg22, .inl hg25⟩] at hn2;refine zQ 3 ?_;obtain ⟨_,st,hev,s2,⟨r1,r2,r3,r4,l,rfl,r5,r6,r7⟩,hH⟩ := repX_ev hA hok (s := s1) he1 hlt h2 (by omega) hH;refine qv hev ?_;refine qh (s := 1) (vs := [_]) hH fun k41 st hk41 hH => ?_;dsimp only [u2,u1,u3,u4,setMany,u5,u6,D.cells,Nat.reduceAdd,prsC,gotC,intC,rangeC,partC] at hH;refine EvO.happend (s := 1) hH rfl (ev rfl) (ev rfl) (by exact at3) (by exact hH.rows (by exact at0)) rfl rfl rfl rfl rfl rfl rfl ⟨(Nat.le_of_ble_eq_true rfl),(Nat.le_of_ble_eq_true rfl)⟩ (fun _ => (put_T rfl _)) (by simp only [List.length_cons,List.length_nil,List.length_map] <;> omega) (by exact .inr rfl) (fun x42 st hH => ?_);dsimp only [u2,u1,u3,u4,setMany,u5,u6,D.cells,Nat.reduceAdd,prsC,gotC,intC,rangeC,partC] at hH;refine zQ 2 ?_;have hH := hH.drop 1
     have r8 : s2.e = 0 -> l.length + 1 <= 4 * (s2.i - s1.i) := fun e => by
      rcases r7 with r7 | r7
      ·exact absurd e r7.ne
      ·exact r7.2.2
     have r9 : ErrX R pls s2 \/ s2.e = 0 /\ ∃ n,gs.length - s2.i < n /\ catL A gs m n s2.i s2.g (parts ++ [l]) = R := by
      rcases r7 with r7 | ⟨r7,r71,r72⟩
      ·exact .inl (r7.map fun e w h => by rw [<- hn2,h])
      ·rw [r71] at hn2;exact .inr ⟨r7,n,by omega,hn2⟩
     have r10 : gs.length - s2.i + (if s2.e = 0 then 1 else 0) <= mm - 1 := by
      by_cases e : s2.e = 0
      ·have := r8 e;rw [if_pos e]; omega
      ·rw [if_neg e]; omega
     refine ⟨mm - 1,by omega,⟨s2,x42,parts ++ [l],rfl,(by rw [List.map_append]; exact hH),by omega,r2,by omega,r4,?_,by rw [sumL_append,List.length_append]; simp only [sumL,List.length_cons,List.length_nil]; omega,(fun e => by have := r8 e; rw [sumL_append,List.length_append]; simp only [sumL,List.length_cons,List.length_nil]; omega),r9,r10⟩⟩;intro l' hl'
     rcases List.mem_append.1 hl' with hl' | hl'
     ·exact h5 l' hl'
     ·simp only [List.mem_cons,List.not_mem_nil,or_false] at hl'; subst hl'; exact r5
    | true =>
     refine zQ 17 ?_;refine qn ?_ (hg := wi hg5);simp only [List.length_map];refine zQ 4 ?_;obtain ⟨_,st,hev,rfl,hH⟩ := is_ev (s := s1) (by omega) 124 hH;refine qv hev ?_ (hg := wi hg17);refine zQ 4 ?_;obtain ⟨_,st,hev,rfl,hH⟩ := is_ev (s := s1) (by omega) 41 hH;refine qv hev ?_ (hg := wi hg22);refine zQ 6 ?_;refine EvO.pickT (wantD_is rfl rfl rfl hg22) rfl hg25 (put_T rfl _) ?_;refine zQ 3 ?_
     by_cases hop : 0 < s1.o
     ·have hcc : (!decide (((s1.o : Nat) : Int) > 0)) = false := by rw [decide_eq_true (by omega)]; rfl
      refine qE rfl (by rw [hcc]) ?_;refine zQ 1 ?_;obtain ⟨_,hjo,hQ,l,rfl⟩ := hexit _ (.inr ⟨he1,by rw [<- hn2,if_neg (fun h => by rcases h.2.2 with h | h; rw [hg25] at h; exact absurd h (by simp); omega)]⟩) hH;refine zQ 3 ?_;refine qv (hjo) ?_;refine zQ 2 ?_;refine EvC.ret ⟨rx,_,_,_,rfl,leaveD_rw (rfl),?_⟩;exact ⟨s1,hQ,hH0.leaveRw1 hS2 (hH.erase 2)⟩
     ·have hcc : (!decide (((s1.o : Nat) : Int) > 0)) = true := by rw [decide_eq_false (by omega)]; rfl
      refine qD rfl (by rw [hcc]) ?_;refine zQ 2 ?_;rw [if_pos ⟨hlt,by simpa using hg22, .inr (by omega)⟩] at hn2;refine zQ 3 ?_;obtain ⟨_,st,hev,s2,⟨r1,r2,r3,r4,l,rfl,r5,r6,r7⟩,hH⟩ := repX_ev hA hok (s := s1) he1 hlt h2 (by omega) hH;refine qv hev ?_;refine qh (s := 1) (vs := [_]) hH fun k41 st hk41 hH => ?_;dsimp only [u2,u1,u3,u4,setMany,u5,u6,D.cells,Nat.reduceAdd,prsC,gotC,intC,rangeC,partC] at hH;refine EvO.happend (s := 1) hH rfl (ev rfl) (ev rfl) (by exact at3) (by exact hH.rows (by exact at0)) rfl rfl rfl rfl rfl rfl rfl ⟨(Nat.le_of_ble_eq_true rfl),(Nat.le_of_ble_eq_true rfl)⟩ (fun _ => (put_T rfl _)) (by simp only [List.length_cons,List.length_nil,List.length_map] <;> omega) (by exact .inr rfl) (fun x42 st hH => ?_);dsimp only [u2,u1,u3,u4,setMany,u5,u6,D.cells,Nat.reduceAdd,prsC,gotC,intC,rangeC,partC] at hH;refine zQ 2 ?_;have hH := hH.drop 1
      have r8 : s2.e = 0 -> l.length + 1 <= 4 * (s2.i - s1.i) := fun e => by
       rcases r7 with r7 | r7
       ·exact absurd e r7.ne
       ·exact r7.2.2
      have r9 : ErrX R pls s2 \/ s2.e = 0 /\ ∃ n,gs.length - s2.i < n /\ catL A gs m n s2.i s2.g (parts ++ [l]) = R := by
       rcases r7 with r7 | ⟨r7,r71,r72⟩
       ·exact .inl (r7.map fun e w h => by rw [<- hn2,h])
       ·rw [r71] at hn2;exact .inr ⟨r7,n,by omega,hn2⟩
      have r10 : gs.length - s2.i + (if s2.e = 0 then 1 else 0) <= mm - 1 := by
       by_cases e : s2.e = 0
       ·have := r8 e;rw [if_pos e]; omega
       ·rw [if_neg e]; omega
      refine ⟨mm - 1,by omega,⟨s2,x42,parts ++ [l],rfl,(by rw [List.map_append]; exact hH),by omega,r2,by omega,r4,?_,by rw [sumL_append,List.length_append]; simp only [sumL,List.length_cons,List.length_nil]; omega,(fun e => by have := r8 e; rw [sumL_append,List.length_append]; simp only [sumL,List.length_cons,List.length_nil]; omega),r9,r10⟩⟩;intro l' hl'
      rcases List.mem_append.1 hl' with hl' | hl'
      ·exact h5 l' hl'
      ·simp only [List.mem_cons,List.not_mem_nil,or_false] at hl'; subst hl'; exact r5
  ·have hg17 : decide (((s1.i : Nat) : Int) < ((gs.length : Nat) : Int)) = false := by rw [decide_eq_false_iff_not]; omega
   refine zQ 17 ?_;refine qn ?_ (hg := wi hg5);simp only [List.length_map];refine zQ 22 ?_;obtain ⟨_,hjo,hQ,l,rfl⟩ := hexit _ (.inr ⟨he1,by rw [<- hn2,if_neg (fun h => hlt h.1)]⟩) hH;refine zQ 3 ?_;refine qv (hjo) ?_;refine zQ 2 ?_;refine EvC.ret ⟨rx,_,_,_,rfl,leaveD_rw (rfl),?_⟩;exact ⟨s1,hQ,hH0.leaveRw1 hS2 (hH.erase 2)⟩
 ·have hg5 : (s1.e == 0) = false := by simpa using he1
  refine zQ 40 ?_;obtain ⟨_,hjo,hQ,l,rfl⟩ := hexit _ (.inl (h8.resolve_right fun h => he1 h.1)) hH;refine zQ 3 ?_;refine qv (hjo) ?_;refine zQ 2 ?_;refine EvC.ret ⟨rx,_,_,_,rfl,leaveD_rw (rfl),?_⟩;exact ⟨s1,hQ,hH0.leaveRw1 hS2 (hH.erase 2)⟩
theorem altB_ev {m : Nat} {gs : List (Nat × Nat)} {A : PF} (hA : ∀ m',m' + 1 = m -> AltX A gs m') : AltX (altB A gs m) gs m := by
 intro N k S s0 H plD pls s hok he hi hg ho hH;have hgl := hok.gl;have hpl := hok.pl;refine Ev.mkE rfl fi16 rfl rfl rfl ?_;refine zE ?_;have hH0 := hH;have hH := hH.enterRw;have hS2 : (enterSt .rw s0).bs = s0.bs := rfl;generalize enterSt .rw s0 = S2 at *
 obtain ⟨R,hR⟩ : ∃ R,altB A gs m s.i s.g = R := ⟨_,rfl⟩
 rw [hR];unfold altB at hR;refine zQ 7 ?_;obtain ⟨_,st,hev,s1,⟨p1,p2,p3,p4,l,rfl,p5,p6,p7⟩,hH⟩ := catX_ev hA hok he hi hg ho hH;refine qv hev ?_;refine qh (s := 1) (vs := [_]) hH fun k6 st hk6 hH => ?_;dsimp only [u2,u1,u3,u4,setMany,u5,u6,D.cells,Nat.reduceAdd,prsC,gotC,intC,rangeC,partC] at hH;refine zQ 2 ?_
 have h80 : ErrX R pls s1 \/ s1.e = 0 /\ ∃ n,gs.length - s1.i < n /\ altL A gs m n s1.i s1.g [l] = R := by
  rcases p7 with p7 | ⟨p7,p71⟩
  ·exact .inl (p7.map fun e w h => by rw [<- hR,h])
  ·rw [p71] at hR;exact .inr ⟨p7,_,by omega,hR⟩
 have hH : Has N S2 st (.box k (.mem 0 false (prsC gs plD s1)) :: .lst plD 1 (pls.map intC) :: .lst (.win k6 0 0 1 1) 1 ([l].map partC) :: H) := Has_rot3 hH;refine zQ 2 ?_;refine EvC.loop (fun mm fr st => ∃ (s1 : Prs) (pd : D) (parts : List (List Nod)),fr.clean = ⟨4, [.ptr k 0 0,ixF_Ti fr 1,ixF_Ti fr 2,pd], []⟩ /\ Has N S2 st (.box k (.mem 0 false (prsC gs plD s1)) :: .lst plD 1 (pls.map intC) :: .lst pd 1 (parts.map partC) :: H) /\ (s1.o = s.o) /\ (s1.g <= 4) /\ (s.i <= s1.i) /\ (s1.i <= gs.length) /\ (∀ l ∈ parts, ∀ n ∈ l,NdV n) /\ (sumL parts + 3 * parts.length <= 4 * (s1.i - s.i) + 4) /\ (1 <= parts.length) /\ (ErrX R pls s1 \/ s1.e = 0 /\ ∃ n,gs.length - s1.i < n /\ altL A gs m n s1.i s1.g parts = R) /\ (gs.length - s1.i <= mm)) (gs.length) ?_ ?_
 ·exact ⟨s1, .win k6 0 0 1 1, [l],rfl,hH,p1,p2,p3,p4,(fun l' hl' => by simp only [List.mem_cons,List.not_mem_nil,or_false] at hl'; subst hl'; exact p5),by simp only [sumL,List.length_cons,List.length_nil]; omega,by simp,h80,by omega⟩
 rintro mm fr st ⟨s1,pd,parts,hfr,hH,h1,h2,h3,h4,h5,h6,h8,h9,hmm⟩;rw [hfr];clear hfr;generalize ixF_Ti fr = ee;clear fr
 have hexit : ∀ st : St,(ErrX R pls s1 \/ s1.e = 0 /\ R = .ok (joinS 4 parts,s1.g) s1.i) -> Has N S2 st (.box k (.mem 0 false (prsC gs plD s1)) :: .lst plD 1 (pls.map intC) :: .lst pd 1 (parts.map partC) :: H) -> ∃ d,Ev pv 35 [.int .i64 4,pd] st d st /\ NodesXQ gs pls R s s1 d /\ ∃ l,d = nlD l := by
  intro st hv hH;obtain ⟨hev,j1,j2,j3⟩ := joinedX_ev 4 (hH.rows at2) h5 (by omega) (by omega);refine ⟨_,hev,⟨h1,h2,h3,h4,joinS 4 parts,rfl,j1,?_,hv⟩,_,rfl⟩
  by_cases q1 : parts.length = 1
  ·have := j2 q1; omega
  ·omega
 by_cases he1 : s1.e = 0
 ·obtain ⟨n,hn1,hn2⟩ := (h9.resolve_left fun h => absurd he1 h.ne).2
  obtain ⟨n,rfl⟩ : ∃ m,n = m + 1 := ⟨n - 1,by omega⟩
  unfold altL at hn2;have hg5 : (s1.e == 0) = true := by simpa using he1
  obtain ⟨k1,k2,k3,k4,k5⟩ := skip_i (gs := gs) (s := s1) (r := 124);have k5 := k5 h4;refine zQ 10 ?_;obtain ⟨_,st,hev,rfl,hH⟩ := skip_ev (s := s1) (by omega) 124 hH;refine qv hev ?_ (hg := wi hg5);refine zQ 2 ?_
  cases hb : isS gs s1.i 124 with
  | false =>
   rw [skip_no hb] at hH;refine zQ 2 ?_;obtain ⟨_,hjo,hQ,l,rfl⟩ := hexit _ (.inr ⟨he1,by rw [<- hn2,if_neg (by rw [hb]; simp)]⟩) hH;refine zQ 3 ?_;refine qv (hjo) ?_;refine zQ 2 ?_;refine EvC.ret ⟨rx,_,_,_,rfl,leaveD_rw (rfl),?_⟩;exact ⟨s1,hQ,hH0.leaveRw1 hS2 (hH.erase 2)⟩
  | true =>
   have k6 := skip_yes hb;rw [if_pos hb] at hn2;generalize skipS gs s1 124 = s2 at *;refine zQ 6 ?_;obtain ⟨_,st,hev,s3,⟨r1,r2,r3,r4,l,rfl,r5,r6,r7⟩,hH⟩ := catX_ev hA hok (s := s2) (by omega) k5 (by omega) (by omega) hH;refine qv hev ?_;refine qh (s := 1) (vs := [_]) hH fun k19 st hk19 hH => ?_;dsimp only [u2,u1,u3,u4,setMany,u5,u6,D.cells,Nat.reduceAdd,prsC,gotC,intC,rangeC,partC] at hH;refine EvO.happend (s := 1) hH rfl (ev rfl) (ev rfl) (by exact at3) (by exact hH.rows (by exact at0)) rfl rfl rfl rfl rfl rfl rfl ⟨(Nat.le_of_ble_eq_true rfl),(Nat.le_of_ble_eq_true rfl)⟩ (fun _ => (put_T rfl _)) (by simp only [List.length_cons,List.length_nil,List.length_map] <;> omega) (by exact .inr rfl) (fun x20 st hH => ?_);dsimp only [u2,u1,u3,u4,setMany,u5,u6,D.cells,Nat.reduceAdd,prsC,gotC,intC,rangeC,partC] at hH;refine zQ 2 ?_;have hH := hH.drop 1;rw [k6,show s2.g = s1.g by omega] at r7
   have r9 : ErrX R pls s3 \/ s3.e = 0 /\ ∃ n,gs.length - s3.i < n /\ altL A gs m n s3.i s3.g (parts ++ [l]) = R := by
    rcases r7 with r7 | ⟨r7,r71⟩
    ·exact .inl (r7.map fun e w h => by rw [<- hn2,h])
    ·rw [r71] at hn2;exact .inr ⟨r7,n,by omega,hn2⟩
   refine ⟨mm - 1,by omega,⟨s3,x20,parts ++ [l],rfl,(by rw [List.map_append]; exact hH),by omega,r2,by omega,r4,?_,by rw [sumL_append,List.length_append]; simp only [sumL,List.length_cons,List.length_nil]; omega,by rw [List.length_append]; omega,r9,by omega⟩⟩;intro l' hl'
   rcases List.mem_append.1 hl' with hl' | hl'
   ·exact h5 l' hl'
   ·simp only [List.mem_cons,List.not_mem_nil,or_false] at hl'; subst hl'; exact r5
 ·have hg5 : (s1.e == 0) = false := by simpa using he1
  refine zQ 15 ?_;obtain ⟨_,hjo,hQ,l,rfl⟩ := hexit _ (.inl (h9.resolve_right fun h => he1 h.1)) hH;refine zQ 3 ?_;refine qv (hjo) ?_;refine zQ 2 ?_;refine EvC.ret ⟨rx,_,_,_,rfl,leaveD_rw (rfl),?_⟩;exact ⟨s1,hQ,hH0.leaveRw1 hS2 (hH.erase 2)⟩
theorem altX_ev (gs : List (Nat × Nat)) (m : Nat) : AltX (altF gs m) gs m := by
 induction m with
 | zero => exact altB_ev (fun m' h => by omega)
 | succ m ih => exact altB_ev (fun m' h => by cases h; exact @ih)
def ixF_Tj (fr : Go.V.Fr) (k : Nat) : Go.V.D := Go.V.nth .junk fr.loc k
def plsF : List (Nat × Nat) -> Nat -> List Int
 | [],_ => []
 | q :: l,a => ((a : Nat) : Int) :: plsF l (a + q.2)
noncomputable def parseR (gs : List (Nat × Nat)) (R : PR (List Nod × Nat)) : List Nod × Int × Int :=
 match R with
 | .er e w => ([],e,(plsF gs 0).getD w 0)
 | .ok (l,_) j => if j < gs.length then ([],4,(plsF gs 0).getD j 0) else (l,0,0)
noncomputable def parseX (b : List UInt8) : List Nod × Int × Int :=
 if 120 < b.length then ([],2,0) else parseR (allS b) (altF (allS b) 20 0 0)
def parseD (q : List Nod × Int × Int) : D := .tup [nlD q.1, .int .i64 q.2.1, .int .i64 q.2.2]
theorem parseX_ev {s0 : St} {b : List UInt8} (hbl : b.length <= 1048576) : Ev pv 9 [.str b] s0 (parseD (parseX b)) s0 /\ (∀ n ∈ (parseX b).1,NdV n) /\ (parseX b).1.length <= 500 := by
 suffices hg : ∃ d,Ev pv 9 [.str b] s0 d s0 /\ d = parseD (parseX b) /\ (∀ n ∈ (parseX b).1,NdV n) /\ (parseX b).1.length <= 500 by
  obtain ⟨d,h1,rfl,h2⟩ := hg;exact ⟨h1,h2⟩
 obtain ⟨X,hX⟩ : ∃ X,parseX b = X := ⟨_,rfl⟩
 rw [hX];unfold parseX at hX;obtain ⟨hgl,hgs⟩ := allS_len _ b (Nat.le_refl _);have hev : ∀ (st : St) (x : D),Bytes st x b -> Ev pv 12 [x] st (gotsD (allS b)) st := fun st x h => all_ev h hbl;generalize allS b = gs at *;refine Ev.mkR rfl fi9 rfl rfl rfl ?_;refine zE ?_;obtain ⟨hSb,hF,hH⟩ := ri s0;generalize enterSt .ro s0 = S at *;have hgr : Arg s0.bs.length S 2 (gotsD gs) (gs.map gotC) := Arg.pure (fun st => gots_rows st gs);refine zQ 10 ?_;refine EvO.slen rfl rfl rfl (by dsimp only [Fr.put,u1,u2] <;> rfl) ?_;refine zQ 2 ?_
 by_cases hlong : 120 < b.length
 ·have hcc : decide (((b.length : Nat) : Int) > 120) = true := by rw [decide_eq_true_eq]; omega
  refine qD rfl (by rw [hcc]) ?_;refine zQ 6 ?_;refine EvC.ret ⟨rx,_,_,rfl,rl hSb hH (rfl),?_⟩;rw [if_pos hlong] at hX;rw [<- hX];exact ⟨rfl,fun n hn => (by cases hn),by simp⟩
 rw [if_neg hlong] at hX;have hcc : decide (((b.length : Nat) : Int) > 120) = false := by rw [decide_eq_false_iff_not]; omega
 refine qE rfl (by rw [hcc]) ?_;refine zQ 4 ?_;refine EvO.hbytes hH rfl rfl rfl rfl rfl (by omega) (fun _ => by dsimp only [Fr.put,u1,u2] <;> rfl) (fun k14 st hk14 hH => ?_);refine qv ((hev _ _ (hH.rows at0))) ?_;refine EvO.go (d := .agg [gotsD gs, .nul, .int .i64 0, .int .i64 0, .int .i64 0, .int .i64 0, .int .i64 0]) (st1 := _) rfl rfl rfl (by dsimp only [Fr.put,u1,u2] <;> rfl) ?_;refine qb hH fun k17 st hk17 hH => ?_;refine zQ 13 ?_;refine qn ?_;simp only [List.length_map];refine zQ 2 ?_;have hH : Has s0.bs.length S st (.box k17 (.mem 0 false [gotsD gs, .nul, .int .i64 0, .int .i64 0, .int .i64 0, .int .i64 0, .int .i64 0]) :: .lst .nul 1 (([] : List Int).map intC) :: []) := ((hH.erase 1).nulE 1).front at1;refine zQ 1 ?_;refine EvC.loop (fun mm fr st => ∃ (i a : Nat) (pd : D) (pls : List Int),fr.clean = ⟨24, [ixF_Tj fr 0,ixF_Tj fr 1,ixF_Tj fr 2,ixF_Tj fr 3,ixF_Tj fr 4, .ptr k17 0 0, .int .i64 (a : Nat),ixF_Tj fr 7,ixF_Tj fr 8,ixF_Tj fr 9,ixF_Tj fr 10,ixF_Tj fr 11,ixF_Tj fr 12,ixF_Tj fr 13,ixF_Tj fr 14,ixF_Tj fr 15,ixF_Tj fr 16,ixF_Tj fr 17,ixF_Tj fr 18,ixF_Tj fr 19,ixF_Tj fr 20,gotsD gs, .int .i64 (gs.length : Nat), .int .i64 (i : Nat)], []⟩ /\ Has s0.bs.length S st [.box k17 (.mem 0 false [gotsD gs,pd, .int .i64 0, .int .i64 0, .int .i64 0, .int .i64 0, .int .i64 0]), .lst pd 1 (pls.map intC)] /\ (i + mm = gs.length) /\ (pls.length = i) /\ (pls ++ plsF (gs.drop i) a = plsF gs 0) /\ (a <= 120 * i)) (gs.length) ?_ ?_
 ·exact ⟨0,0, .nul, [],rfl,hH,by omega,rfl,rfl,by omega⟩
 rintro mm fr st ⟨i,a,pd,pls,hfr,hH,hi,hpl,hps,ha⟩;rw [hfr];clear hfr;generalize ixF_Tj fr = ee;clear fr;refine zQ 4 ?_
 by_cases hlt : i < gs.length
 ·obtain ⟨g,hg⟩ : ∃ g,gs[i]? = some g := ⟨gs[i]'hlt,List.getElem?_eq_getElem _⟩
  have hr1 : (gs.map gotC)[i]? = some (gotC g) := by rw [List.getElem?_map,hg]; rfl
  have hg2 := hgs g (List.mem_of_getElem? hg)
  have hdr : gs.drop i = g :: gs.drop (i + 1) := by
   have := List.drop_eq_getElem_cons (l := gs) (i := i) hlt;rw [this]; congr 1;rw [List.getElem?_eq_getElem hlt] at hg;exact Option.some.inj hg
  rw [hdr] at hps
  have hps : (pls ++ [((a : Nat) : Int)]) ++ plsF (gs.drop (i + 1)) (a + g.2) = plsF gs 0 := by
   rw [List.append_assoc]; exact hps
  have hc2 : decide (((i : Nat) : Int) < ((gs.length : Nat) : Int)) = true := by rw [decide_eq_true_eq]; omega
  refine qq ?_;refine qD rfl (by rw [hc2]) ?_;refine zQ 5 ?_;refine qr fun p25 hp25 => ?_;refine EvO.rloadS rfl (ev rfl) (by assumption) rfl (put_T rfl _) ?_;refine qa hH fun k8 st hk8 hH => ?_;refine qS hH at0 fun st hH => ?_;dsimp only [u2,u1,u3,u4,setMany,u5,u6,D.cells,Nat.reduceAdd,prsC,gotC,intC] at hH;refine zQ 9 ?_;refine qh (s := 1) (vs := [_]) hH fun k33 st hk33 hH => ?_;refine EvO.happend (s := 1) hH rfl (ev rfl) (ev rfl) (by exact at3) (by exact hH.rows (by exact at0)) rfl rfl rfl rfl rfl rfl rfl ⟨(Nat.le_of_ble_eq_true rfl),(Nat.le_of_ble_eq_true rfl)⟩ (fun _ => (put_T rfl _)) (by simp only [List.length_cons,List.length_nil,List.length_map] <;> omega) (by exact .inl hF) (fun x34 st hH => ?_);dsimp only [u2,u1,u3,u4,setMany,u5,u6,D.cells,Nat.reduceAdd,prsC,gotC,intC] at hH;refine zQ 2 ?_;refine qT hH at2 (fun st hH => ?_) (hcs := hH.ocells at3);dsimp only [u2,u1,u3,u4,setMany,u5,u6,D.cells,Nat.reduceAdd,prsC,gotC,intC] at hH;refine zQ 5 ?_;refine EvO.addN rfl (ev rfl) (ev rfl) (by omega) (put_T rfl _) ?_;refine zQ 6 ?_;exact ⟨mm - 1,by omega,⟨i + 1,a + g.2,x34,pls ++ [((a : Nat) : Int)],rfl,(by rw [List.map_append]; exact hH.drop 2),by omega,by rw [List.length_append,hpl]; rfl,hps,by omega⟩⟩
 ·have hc2 : decide (((i : Nat) : Int) < ((gs.length : Nat) : Int)) = false := by rw [decide_eq_false_iff_not]; omega
  refine qq ?_;refine qE rfl (by rw [hc2]) ?_;refine zQ 1 ?_
  have hok : PrsOk gs pls := ⟨by omega,by omega⟩
  have hps : pls = plsF gs 0 := by
   rw [List.drop_eq_nil_of_le (by omega)] at hps;rw [<- hps]; simp [plsF]
  have hH : Has s0.bs.length S st (.box k17 (.mem 0 false (prsC gs pd ⟨0,0,0,0,0⟩)) :: .lst pd 1 (pls.map intC) :: []) := hH;refine zQ 3 ?_;obtain ⟨_,st,hev,s1,⟨p1,p2,p3,p4,l,rfl,p5,p6,p7⟩,hH⟩ := altX_ev gs 20 (s := ⟨0,0,0,0,0⟩) hok rfl (by simp) (by simp) rfl hH;refine qv hev ?_;refine zQ 2 ?_;have p6 : l.length <= 4 * (s1.i - 0) + 1 := p6;have p7 : ErrX (altF gs 20 0 0) pls s1 \/ s1.e = 0 /\ altF gs 20 0 0 = .ok (l,s1.g) s1.i := p7;generalize altF gs 20 0 0 = R at *;unfold parseR at hX;rw [<- hps] at hX;refine zQ 2 ?_;refine EvC.merge3 (fun fr st => ∃ (s2 : Prs) (tmp : List (Nat × D)),fr = ⟨24, [ixF_Tj fr 0,ixF_Tj fr 1,ixF_Tj fr 2,ixF_Tj fr 3,ixF_Tj fr 4, .ptr k17 0 0,ixF_Tj fr 6,ixF_Tj fr 7,ixF_Tj fr 8,nlD l,ixF_Tj fr 10,ixF_Tj fr 11,ixF_Tj fr 12,ixF_Tj fr 13,ixF_Tj fr 14,ixF_Tj fr 15,ixF_Tj fr 16,ixF_Tj fr 17,ixF_Tj fr 18,ixF_Tj fr 19,ixF_Tj fr 20,ixF_Tj fr 21,ixF_Tj fr 22,ixF_Tj fr 23],tmp⟩ /\ Has s0.bs.length S st (.box k17 (.mem 0 false (prsC gs pd s2)) :: .lst pd 1 (pls.map intC) :: []) /\ (s2.e ≠ 0 /\ X = ([],s2.e,s2.w) \/ s2.e = 0 /\ X = (l,0,0))) ?_ ?_
  ·by_cases he1 : s1.e = 0
   ·have hg5 : (s1.e == 0) = true := by simpa using he1
    have hR : R = .ok (l,s1.g) s1.i := by
     rcases p7 with p7 | p7
     ·exact absurd he1 p7.ne
     ·exact p7.2
    rw [hR] at hX;simp only at hX;refine zQ 15 ?_;refine qn ?_ (hg := wi hg5);simp only [List.length_map];refine zQ 3 ?_;refine zP (fun hin => ?_) fun hin => ?_
    ·refine zQ 6 ?_;obtain ⟨_,st,hev,rfl,hH⟩ := wrong_ev (s := s1) s1.i 4 (by omega) hH;refine qv hev ?_;refine zQ 1 ?_;rw [if_pos (by omega)] at hX;have hw : (wrongS pls s1 s1.i 4).e = 4 /\ (wrongS pls s1 s1.i 4).w = pls.getD s1.i 0 := by unfold wrongS; rw [if_pos he1]; exact ⟨rfl,rfl⟩
     exact ⟨_,_,rfl,hH, .inl ⟨by rw [hw.1]; decide,by rw [hw.1,hw.2]; exact hX.symm⟩⟩
    ·rw [if_neg (by omega)] at hX;refine zQ 1 ?_;exact ⟨s1,_,rfl,hH, .inr ⟨he1,hX.symm⟩⟩
   ·have hg5 : (s1.e == 0) = false := by simpa using he1
    refine zQ 19 ?_
    have hE : X = ([],s1.e,s1.w) := by
     obtain ⟨e,w,h0,h1,h2,h3⟩ := p7.resolve_right fun h => he1 h.1;rw [h0] at hX;rw [<- hX,h2,h3]
    refine zQ 2 ?_;exact ⟨s1,_,rfl,hH, .inl ⟨he1,hE⟩⟩
  ·rintro fr st ⟨s2,tmp,hfr,hH,ht⟩;rw [hfr];clear hfr;generalize ixF_Tj fr = ee;clear fr;refine zQ 9 ?_;refine EvC.cond (by rfl) (fun hne => ?_) (fun hne => ?_) <;> try simp only [bne_iff_ne,bne_eq_false_iff_eq,ne_eq] at hne
   ·refine zQ 14 ?_;refine EvC.ret ⟨rx,_,_,rfl,rl hSb hH (rfl),?_⟩
    rcases ht with ⟨h1,h2⟩ | ⟨h1,h2⟩
    ·rw [h2];exact ⟨rfl,fun n hn => (by cases hn),by simp⟩
    ·exact absurd h1 hne
   ·refine zQ 8 ?_;refine EvC.ret ⟨rx,_,_,rfl,rl hSb hH (rfl),?_⟩
    rcases ht with ⟨h1,h2⟩ | ⟨h1,h2⟩
    ·exact absurd h1 (by omega)
    ·rw [h2];exact ⟨rfl,p5,by show l.length <= 500; omega⟩
end Go.Proofs.Ytapfahlbkhgdpaa
