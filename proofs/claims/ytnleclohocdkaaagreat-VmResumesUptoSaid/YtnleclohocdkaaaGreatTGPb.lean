/-
 The parser of patterns: classes by single runes; numbers.
-/
import Derived.Test.YtnleclohocdkaaaGreatTGHr
import Derived.Test.YtnleclohocdkaaaGreatTGCa
import Derived.Test.YtnleclohocdkaaaGreatTDgp
import Derived.Test.YtnleclohocdkaaaGreatTM2
set_option maxRecDepth 100000
set_option maxHeartbeats 4000000
set_option linter.unusedSimpArgs false
set_option linter.unusedVariables false
set_option linter.unusedSectionVars false
namespace Go.Proofs.YtnleclohocdkaaaGreat
open Go.V Go
def dt (fr:Go.V.Fr) (k:Nat):Go.V.D:=Go.V.nth .junk fr.loc k
noncomputable def iX (l:List Rg):List Rg:=@dite _ (∃a,eR l a) (Classical.propDecidable _) (fun h=>Classical.choose h) (fun _=>[])
theorem Bb {l a:List Rg} (h:eR l a):iX l=a:=by
 have hx:∃a,eR l a:=⟨a,h⟩
 unfold iX;rw[dif_pos hx];exact(Classical.choose_spec hx).unique h
theorem ki {s0:St} {x:D} {l:List Rg} (hx:V.Rows s0 2 x (l.map ai)) (hl:l.length≤1048576):Ev pv 133 [x] s0 (aX (iX l)) s0∧(iX l).length≤2*l.length∧eR l (iX l):=by
 obtain⟨_,hev,all,rfl,hperm,mA⟩:=xR hx (by omega);have hM:eR l (all.foldl cD []).reverse:=og (fun x=>hperm.mem_iff) mA;have hlen:=hperm.length_eq;have lU:=gk l;have iK:=oo all;rw[Bb hM];exact⟨hev,by rw[List.length_reverse];omega,hM⟩
theorem gL (l:List Rg):SlD (aX l) 2 (l.map ai):=by
 rw[←fG];refine SlD.frozen ?_ ?_
 ·intro e he;obtain⟨x,_,rfl⟩:=List.mem_map.1 he;rfl
 ·intro e he d hd;obtain⟨x,_,rfl⟩:=List.mem_map.1 he;simp only[ai,List.mem_cons,List.not_mem_nil,or_false] at hd
  rcases hd with rfl|rfl<;>rfl
theorem sD {r:Int} {l a:List Rg} (h0:0≤r) (h1:r<55296) (hr:dZ l r) (h:eR l a):a≠[]:=by
 rintro rfl;have:=(h.2 r).2 ⟨by unfold lO;omega,hr⟩;obtain⟨x,hx,_⟩:=this;cases hx
theorem ur {r:Int} (h0:0≤r) (h1:r<55296) {a:List Rg} (h:eR [(r,r)] a):a≠[]:=by
 rintro rfl;have:=(h.2 r).2 ⟨?_,?_⟩
 ·obtain⟨x,hx,_⟩:=this;cases hx
 ·unfold lO;omega
 ·exact⟨(r,r),List.mem_cons_self ..,by simp⟩
theorem gI {s0:St} (r:Int):Ev pv 159 [.int .i32 r] s0 (aX (iX [(r,r)])) s0:=by
 refine Ev.mk1 rfl IU rfl rfl rfl ?_;refine zE ?_;obtain⟨hSb,hF,hH⟩:=ri s0;generalize enterSt .ro s0=S at*;refine zQ 8 ?_;refine EvO.eI (qs:=[(0,_),(1,_)]) rfl rfl rfl rfl ⟨rfl,(ev rfl),(by rfl),rfl,(ev rfl),(by rfl),trivial⟩ (by intro q hq;simp only[List.mem_cons,List.not_mem_nil,or_false] at hq;rcases hq with rfl|rfl<;>exact⟨rfl,by exact Nat.le_of_ble_eq_true rfl⟩) (by show List.foldl _ [_,_] _=_;dsimp only[List.foldl_cons,List.foldl_nil,u2,u1]<;>rfl) (put_T rfl _) ?_;refine qh (s:=2) (vs:=[_]) hH fun k6 st DP hH=>?_;obtain⟨hev,hl,_⟩:=ki (l:=[(r,r)]) (hH.rows at0) (by simp);refine qv hev ?_;refine zQ 2 ?_;refine EvC.ret ⟨rx,_,rfl,rl hSb hH (rfl)⟩
theorem A3 {s0:St} {x:D} {l:List Rg} (hx:V.Rows s0 2 x (l.map ai)) (hl:l.length≤131072):∃d,Ev pv 166 [x] s0 d s0∧∃a:List Rg,d=aX a∧a.length≤4*l.length+2:=by
 refine Ev.CC rfl IL rfl rfl rfl ?_;refine zE ?_;obtain⟨hSb,hF,hH⟩:=ri s0;generalize enterSt .ro s0=S at*;have hx:=Arg.of hx hSb;refine zQ 12 ?_;obtain⟨hev,DJ,_⟩:=ki (hx.rows hH) (by omega);have hla:=(gL (iX l)).arg s0.bs.length S;generalize iX l=m at*;refine zQ 4 ?_;refine qv (hev) ?_;refine qn ?_;simp only[List.length_map];refine zQ 2 ?_;have hH:=hH.nulE 2;refine zQ 1 ?_;refine EvC.loop (fun mm fr st=>∃(i:Nat) (n:Int) (o:D) (out:List Rg),fr.clean=⟨11,[dt fr 0,dt fr 1,dt fr 2,o,.int .i32 n,dt fr 5,dt fr 6,dt fr 7,aX m,.int .i64 (m.length:Nat),.int .i64 (i:Nat)],[]⟩∧Has s0.bs.length S st [.lst o 2 (out.map ai)]∧(i+mm=m.length)∧(out.length=i)) (m.length) ?_ ?_
 ·exact⟨0,0,.nul,[],rfl,hH,by omega,rfl⟩
 rintro mm fr st ⟨i,n,o,out,hfr,hH,hi,ho⟩;rw[hfr];clear hfr;generalize dt fr=ee;clear fr;refine zQ 5 ?_;refine zP (fun h1=>?_) fun h1=>?_
 ·refine zQ 1 ?_
  obtain⟨q,hq⟩:∃q,m[i]?=some q:=⟨m[i]'(by omega),List.getElem?_eq_getElem _⟩
  have hr:=eH hq;refine zQ 4 ?_;refine qr fun Nq HQ=>?_;refine EvO.cq rfl (ev rfl) (by assumption) rfl (put_T rfl _) ?_;refine qa hH fun k6 st DP hH=>?_;refine qS hH at0 fun st hH=>?_;dsimp only[u2,u1,u3,u4,setMany,u5,u6,D.cells,Nat.reduceAdd,ai] at hH;refine zQ 7 ?_;refine EvO.kb (z:=br .i32 (q.1-1)) rfl (ev rfl) (ev rfl) rfl (put_T rfl _) ?_;refine EvO.eI (qs:=[(0,_),(1,_)]) rfl rfl rfl rfl ⟨rfl,(ev rfl),(by rfl),rfl,(ev rfl),(by rfl),trivial⟩ (by intro q hq;simp only[List.mem_cons,List.not_mem_nil,or_false] at hq;rcases hq with rfl|rfl<;>exact⟨rfl,by exact Nat.le_of_ble_eq_true rfl⟩) (by show List.foldl _ [_,_] _=_;dsimp only[List.foldl_cons,List.foldl_nil,u2,u1]<;>rfl) (put_T rfl _) ?_;refine qh (s:=2) (vs:=[_]) hH fun k20 st Lr hH=>?_;refine EvO.happend (s:=2) hH rfl (ev rfl) (ev rfl) (by exact at2) (by exact hH.rows (by exact at0)) rfl rfl rfl rfl rfl rfl rfl ⟨(Nat.le_of_ble_eq_true rfl),(Nat.le_of_ble_eq_true rfl)⟩ (fun _=>(put_T rfl _)) (by simp only[List.length_cons,List.length_nil,List.length_map]<;>omega) (by exact .inl hF) (fun R6 st hH=>?_);dsimp only[u2,u1,u3,u4,setMany,u5,u6,D.cells,Nat.reduceAdd,ai] at hH;refine zQ 5 ?_;refine EvO.gC (z:=br .i32 (q.2+1)) rfl (ev rfl) (ev rfl) rfl (put_T rfl _) ?_;refine zQ 6 ?_;exact⟨mm-1,by omega,⟨i+1,_,_,out++[(n,br .i32 (q.1-1))],rfl,(by rw[List.map_append];exact hH.drop 2),by omega,by simp[ho]⟩⟩
 ·refine zQ 5 ?_;refine EvO.eI (qs:=[(0,_),(1,_)]) rfl rfl rfl rfl ⟨rfl,(ev rfl),(by rfl),rfl,(ev rfl),(by rfl),trivial⟩ (by intro q hq;simp only[List.mem_cons,List.not_mem_nil,or_false] at hq;rcases hq with rfl|rfl<;>exact⟨rfl,by exact Nat.le_of_ble_eq_true rfl⟩) (by show List.foldl _ [_,_] _=_;dsimp only[List.foldl_cons,List.foldl_nil,u2,u1]<;>rfl) (put_T rfl _) ?_;refine qh (s:=2) (vs:=[_]) hH fun k29 st QE hH=>?_;refine EvO.happend (s:=2) hH rfl (ev rfl) (ev rfl) (by exact at1) (by exact hH.rows (by exact at0)) rfl rfl rfl rfl rfl rfl rfl ⟨(Nat.le_of_ble_eq_true rfl),(Nat.le_of_ble_eq_true rfl)⟩ (fun _=>(put_T rfl _)) (by simp only[List.length_cons,List.length_nil,List.length_map]<;>omega) (by exact .inl hF) (fun R5 st hH=>?_);dsimp only[u2,u1,u3,u4,setMany,u5,u6,D.cells,Nat.reduceAdd,ai] at hH;obtain⟨hev,oD,_⟩:=ki (l:=out++[(n,1114111)]) (by rw[List.map_append];exact hH.rows at1) (by simp;omega);refine qv hev ?_;refine zQ 2 ?_;refine EvC.ret ⟨rx,_,_,rfl,rl hSb hH (rfl),?_⟩;exact⟨_,rfl,by simp at oD;omega⟩
theorem Ga {s0:St}:∃d,Ev pv 158 [] s0 d s0∧∃a:List Rg,d=aX a∧a.length≤6:=by
 refine Ev.CC rfl IV rfl rfl rfl ?_;refine zE ?_;obtain⟨hSb,hF,hH⟩:=ri s0;generalize enterSt .ro s0=S at*;refine zQ 6 ?_;refine EvO.eI (qs:=[(0,_),(1,_)]) rfl rfl rfl rfl ⟨rfl,(ev rfl),(by rfl),rfl,(ev rfl),(by rfl),trivial⟩ (by intro q hq;simp only[List.mem_cons,List.not_mem_nil,or_false] at hq;rcases hq with rfl|rfl<;>exact⟨rfl,by exact Nat.le_of_ble_eq_true rfl⟩) (by show List.foldl _ [_,_] _=_;dsimp only[List.foldl_cons,List.foldl_nil,u2,u1]<;>rfl) (put_T rfl _) ?_;refine qh (s:=2) (vs:=[_]) hH fun k2 st hk2 hH=>?_;obtain⟨_,hev,a,rfl,hl⟩:=A3 (l:=[(10,10)]) (hH.rows at0) (by simp);refine qv hev ?_;refine zQ 2 ?_;refine EvC.ret ⟨rx,_,_,rfl,rl hSb hH (rfl),?_⟩;exact⟨a,rfl,hl⟩
theorem Dj {s0:St} (r:Int):Ev pv 167 [.int .i32 r] s0 (.bool (decide (33≤r∧r≤47∨58≤r∧r≤64∨91≤r∧r≤96∨123≤r∧r≤126))) s0:=by
 refine Ev.mk1 rfl IK rfl rfl rfl ?_;refine zE ?_;obtain⟨hSb,hF,hH⟩:=ri s0;generalize enterSt .ro s0=S at*;refine zQ 5 ?_;refine EvC.jI 2 (.bool (decide (33≤r∧r≤47∨58≤r∧r≤64∨91≤r∧r≤96∨123≤r∧r≤126))) [] ?_ (fun ff tmp=>?_)
 ·refine zQ 3 ?_;refine EvO.two 5 rfl (fun bU=>?_) (fun bU=>?_)
  ·refine zQ 4 ?_;refine EvO.two 9 rfl (fun fL=>?_) (fun fL=>?_)
   ·refine zQ 24 ?_;refine EvO.nil (aI ?_);refine zG ?_
    all_goals(simp[bU,fL];done)
   ·refine zQ 3 ?_;refine EvO.two 12 rfl (fun ez=>?_) (fun ez=>?_)
    ·refine zQ 2 ?_;refine EvO.pickT (wantD_is rfl rfl rfl fL) rfl ez (put_T rfl _) ?_;refine zQ 2 ?_;refine EvO.two 17 rfl (fun dR=>?_) (fun dR=>?_)
     ·refine zQ 16 ?_;refine EvO.nil (aI ?_);refine zG ?_
      all_goals(simp[bU,fL,ez,dR];done)
     ·refine zQ 3 ?_;refine EvO.two 20 rfl (fun bu=>?_) (fun bu=>?_)
      ·refine zQ 2 ?_;refine EvO.pickT (wantD_is rfl rfl rfl dR) rfl bu (put_T rfl _) ?_;refine zQ 2 ?_;refine EvO.two 25 rfl (fun dG=>?_) (fun dG=>?_)
       ·refine zQ 8 ?_;refine EvO.nil (aI ?_);refine zG ?_
        all_goals(simp[bU,fL,ez,dR,bu,dG];done)
       ·refine zQ 3 ?_;refine EvO.two 28 rfl (fun cv=>?_) (fun cv=>?_)
        ·refine zQ 2 ?_;refine EvO.pickT (wantD_is rfl rfl rfl dG) rfl cv (put_T rfl _) ?_;refine zQ 2 ?_;refine EvO.nil (aI ?_);refine zG ?_
         all_goals(simp[bU,fL,ez,dR,bu,dG,cv];done)
        ·refine zQ 2 ?_;refine EvO.pickF (wantD_is rfl rfl rfl dG) rfl cv (put_T rfl _) ?_;refine zQ 2 ?_;refine EvO.nil (aI ?_);refine zG ?_
         all_goals(simp[bU,fL,ez,dR,bu,dG,cv];done)
      ·refine zQ 2 ?_;refine EvO.pickF (wantD_is rfl rfl rfl dR) rfl bu (put_T rfl _) ?_;refine zQ 5 ?_;refine EvO.two 28 rfl (fun cv=>?_) (fun cv=>?_)
       ·refine zQ 5 ?_;refine EvO.nil (aI ?_);refine zG ?_
        all_goals(simp[bU,fL,ez,dR,bu,cv];done)
       ·refine zQ 5 ?_;refine EvO.nil (aI ?_);refine zG ?_
        all_goals(simp[bU,fL,ez,dR,bu,cv];done)
    ·refine zQ 2 ?_;refine EvO.pickF (wantD_is rfl rfl rfl fL) rfl ez (put_T rfl _) ?_;refine zQ 5 ?_;refine EvO.two 20 rfl (fun bu=>?_) (fun bu=>?_)
     ·refine zQ 5 ?_;refine EvO.two 25 rfl (fun dG=>?_) (fun dG=>?_)
      ·refine zQ 8 ?_;refine EvO.nil (aI ?_);refine zG ?_
       all_goals(simp[bU,fL,ez,bu,dG];done)
      ·refine zQ 3 ?_;refine EvO.two 28 rfl (fun cv=>?_) (fun cv=>?_)
       ·refine zQ 2 ?_;refine EvO.pickT (wantD_is rfl rfl rfl dG) rfl cv (put_T rfl _) ?_;refine zQ 2 ?_;refine EvO.nil (aI ?_);refine zG ?_
        all_goals(simp[bU,fL,ez,bu,dG,cv];done)
       ·refine zQ 2 ?_;refine EvO.pickF (wantD_is rfl rfl rfl dG) rfl cv (put_T rfl _) ?_;refine zQ 2 ?_;refine EvO.nil (aI ?_);refine zG ?_
        all_goals(simp[bU,fL,ez,bu,dG,cv];done)
     ·refine zQ 8 ?_;refine EvO.two 28 rfl (fun cv=>?_) (fun cv=>?_)
      ·refine zQ 5 ?_;refine EvO.nil (aI ?_);refine zG ?_
       all_goals(simp[bU,fL,ez,bu,cv];done)
      ·refine zQ 5 ?_;refine EvO.nil (aI ?_);refine zG ?_
       all_goals(simp[bU,fL,ez,bu,cv];done)
  ·refine zQ 7 ?_;refine EvO.two 12 rfl (fun ez=>?_) (fun ez=>?_)
   ·refine zQ 5 ?_;refine EvO.two 17 rfl (fun dR=>?_) (fun dR=>?_)
    ·refine zQ 16 ?_;refine EvO.nil (aI ?_);refine zG ?_
     all_goals(simp[bU,ez,dR];done)
    ·refine zQ 3 ?_;refine EvO.two 20 rfl (fun bu=>?_) (fun bu=>?_)
     ·refine zQ 2 ?_;refine EvO.pickT (wantD_is rfl rfl rfl dR) rfl bu (put_T rfl _) ?_;refine zQ 2 ?_;refine EvO.two 25 rfl (fun dG=>?_) (fun dG=>?_)
      ·refine zQ 8 ?_;refine EvO.nil (aI ?_);refine zG ?_
       all_goals(simp[bU,ez,dR,bu,dG];done)
      ·refine zQ 3 ?_;refine EvO.two 28 rfl (fun cv=>?_) (fun cv=>?_)
       ·refine zQ 2 ?_;refine EvO.pickT (wantD_is rfl rfl rfl dG) rfl cv (put_T rfl _) ?_;refine zQ 2 ?_;refine EvO.nil (aI ?_);refine zG ?_
        all_goals(simp[bU,ez,dR,bu,dG,cv];done)
       ·refine zQ 2 ?_;refine EvO.pickF (wantD_is rfl rfl rfl dG) rfl cv (put_T rfl _) ?_;refine zQ 2 ?_;refine EvO.nil (aI ?_);refine zG ?_
        all_goals(simp[bU,ez,dR,bu,dG,cv];done)
     ·refine zQ 2 ?_;refine EvO.pickF (wantD_is rfl rfl rfl dR) rfl bu (put_T rfl _) ?_;refine zQ 5 ?_;refine EvO.two 28 rfl (fun cv=>?_) (fun cv=>?_)
      ·refine zQ 5 ?_;refine EvO.nil (aI ?_);refine zG ?_
       all_goals(simp[bU,ez,dR,bu,cv];done)
      ·refine zQ 5 ?_;refine EvO.nil (aI ?_);refine zG ?_
       all_goals(simp[bU,ez,dR,bu,cv];done)
   ·refine zQ 8 ?_;refine EvO.two 20 rfl (fun bu=>?_) (fun bu=>?_)
    ·refine zQ 5 ?_;refine EvO.two 25 rfl (fun dG=>?_) (fun dG=>?_)
     ·refine zQ 8 ?_;refine EvO.nil (aI ?_);refine zG ?_
      all_goals(simp[bU,ez,bu,dG];done)
     ·refine zQ 3 ?_;refine EvO.two 28 rfl (fun cv=>?_) (fun cv=>?_)
      ·refine zQ 2 ?_;refine EvO.pickT (wantD_is rfl rfl rfl dG) rfl cv (put_T rfl _) ?_;refine zQ 2 ?_;refine EvO.nil (aI ?_);refine zG ?_
       all_goals(simp[bU,ez,bu,dG,cv];done)
      ·refine zQ 2 ?_;refine EvO.pickF (wantD_is rfl rfl rfl dG) rfl cv (put_T rfl _) ?_;refine zQ 2 ?_;refine EvO.nil (aI ?_);refine zG ?_
       all_goals(simp[bU,ez,bu,dG,cv];done)
    ·refine zQ 8 ?_;refine EvO.two 28 rfl (fun cv=>?_) (fun cv=>?_)
     ·refine zQ 5 ?_;refine EvO.nil (aI ?_);refine zG ?_
      all_goals(simp[bU,ez,bu,cv];done)
     ·refine zQ 5 ?_;refine EvO.nil (aI ?_);refine zG ?_
      all_goals(simp[bU,ez,bu,cv];done)
 dsimp only[setW,List.foldl,nth,u2,u1];refine EvC.ret ⟨rx,_,rfl,rl hSb hH (rfl)⟩
theorem Dk {s0:St} (a b:List UInt8):∃d,Ev pv 161 [.str a,.str b] s0 d s0∧∃v:Bool,d=.bool v:=by
 refine Ev.CC rfl IQ rfl rfl rfl ?_;refine zE ?_;obtain⟨hSb,hF,hH⟩:=ri s0;generalize enterSt .ro s0=S at*;refine zQ 5 ?_;refine EvC.jI 4 (.bool (decide ((a.length:Int)<b.length)||(((a.length:Int)==b.length) &&Op.bytesLess a b))) [] ?_ (fun ff tmp=>?_)
 ·refine qm ?_;refine EvO.slen rfl rfl rfl (put_T rfl _) ?_;refine qm ?_;refine EvO.slen rfl rfl rfl (put_T rfl _) ?_;refine zQ 2 ?_;refine EvO.two 10 rfl (fun gd=>?_) (fun gd=>?_)
  ·refine zQ 12 ?_;refine EvO.nil (aI ?_);refine zG ?_
   all_goals(simp_all;done)
  ·refine zQ 1 ?_;refine EvO.slen (wantD_is rfl rfl rfl gd) rfl rfl (put_T rfl _) ?_;refine zQ 1 ?_;refine EvO.slen (wantD_is rfl rfl rfl gd) rfl rfl (put_T rfl _) ?_;refine zQ 2 ?_;refine EvO.two 16 rfl (fun bX=>?_) (fun bX=>?_)
   ·refine zQ 3 ?_;refine EvO.pickT (wantD_is rfl rfl rfl gd) rfl bX (put_T rfl _) ?_;refine zQ 2 ?_;refine EvO.nil (aI ?_);refine zG ?_
    all_goals(simp_all;done)
   ·refine zQ 3 ?_;refine EvO.pickF (wantD_is rfl rfl rfl gd) rfl bX (put_T rfl _) ?_;refine zQ 2 ?_;refine EvO.nil (aI ?_);refine zG ?_
    all_goals(simp_all;done)
 dsimp only[setW,List.foldl,nth,u2,u1];refine EvC.ret ⟨rx,_,_,rfl,rl hSb hH (rfl),?_⟩;exact⟨_,rfl⟩
theorem j_ {s0:St} (b:List UInt8) (hb:b.length≤1048576):∃d,Ev pv 162 [.str b] s0 d s0∧∃(n:Int) (v:Bool),d=.tup [.int .i64 n,.bool v]:=by
 refine Ev.CC rfl IP rfl rfl rfl ?_;refine zE ?_;obtain⟨hSb,hF,hH⟩:=ri s0;generalize enterSt .ro s0=S at*;refine zQ 9 ?_;refine EvO.slen rfl rfl rfl (by dsimp only[Fr.put,u1,u2]<;>rfl) ?_;refine zQ 2 ?_;refine zP (fun h0=>?_) fun h0=>?_
 ·refine zQ 5 ?_;refine EvC.ret ⟨rx,_,_,rfl,rl hSb hH (rfl),?_⟩;exact⟨_,_,rfl⟩
 ·refine zQ 9 ?_;refine EvO.slen rfl rfl rfl (by dsimp only[Fr.put,u1,u2]<;>rfl) ?_;refine zQ 3 ?_;refine EvC.loop (fun mm fr st=>∃(i:Nat) (n:Int),fr.clean=⟨12,[.str b,dt fr 1,dt fr 2,dt fr 3,.int .i64 n,dt fr 5,dt fr 6,dt fr 7,dt fr 8,dt fr 9,.int .i64 (b.length:Nat),.int .i64 (i:Nat)],[]⟩∧Has s0.bs.length S st []∧(i+mm=b.length)) (b.length) ?_ ?_
  ·exact⟨0,0,rfl,hH,by omega⟩
  rintro mm fr st ⟨i,n,hfr,hH,hi⟩;rw[hfr];clear hfr;generalize dt fr=ee;clear fr;refine zQ 5 ?_;refine zP (fun h1=>?_) fun h1=>?_
  ·refine zQ 1 ?_
   obtain⟨c,hc⟩:∃c,b[i]?=some c:=⟨b[i]'(by omega),List.getElem?_eq_getElem _⟩
   refine zQ 9 ?_;refine EvO.wa (z:=br .i64 (10*n)) rfl (ev rfl) (ev rfl) rfl (put_T rfl _) ?_;refine zQ 2 ?_;refine EvO.JT rfl (ev rfl) (ev rfl) rfl (by assumption) (put_T rfl _) ?_;refine EvO.go (d:=.int .u8 (br .u8 ((c.toNat:Nat)-48))) (st1:=_) rfl rfl rfl (put_T rfl _) ?_;refine qg ?_;refine EvO.gC (z:=br .i64 (br .i64 (10*n)+br .i64 (br .u8 ((c.toNat:Nat)-48)))) rfl (ev rfl) (ev rfl) rfl (put_T rfl _) ?_;refine zQ 6 ?_;exact⟨mm-1,by omega,⟨i+1,_,rfl,hH,by omega⟩⟩
  ·refine zQ 9 ?_;refine EvC.ret ⟨rx,_,_,rfl,rl hSb hH (rfl),?_⟩;exact⟨_,_,rfl⟩
theorem mg:∀gs:List (Nat×Nat),h_ ((gs.map aP).map (iC 2))=some (gs.map fun g=>((g.1:Nat):Int))
 |[]=>rfl
 |g::gs=>by
  have ih:=mg gs;simp only[List.map_cons];show(match h_ ((gs.map aP).map (iC 2)) with|some rs=>some (((g.1:Nat):Int)::rs)|none=>none)=_;rw[ih]
theorem uU:∀(rs:List Int) (acc:List UInt8),(digS rs acc).2≤rs.length∧(digS rs acc).1.length≤acc.length+(digS rs acc).2
 |[],acc=>by simp[digS]
 |r::rs,acc=>by
  unfold digS
  split
  ·have h:=uU rs (if 48<r∨acc≠[] then acc++[UInt8.ofNat r.toNat] else acc);simp only[List.length_cons]
   have hl:(if 48<r∨acc≠[] then acc++[UInt8.ofNat r.toNat] else acc).length≤acc.length+1:=by
    split<;>simp
   omega
  ·simp
structure jj (gs:List (Nat×Nat)) (bo:List Int):Prop where
 gl:gs.length≤120
 pl:bo.length=gs.length
theorem rm {N k:Nat} {S s0:St} {H:List aN} {gs:List (Nat×Nat)} {ba:D} {s:dJ} (sO:gs.length≤120) (hi:s.i≤gs.length) (hne:gs≠[]) (hH:Has N S s0 (.box k (.mem 0 false (aF gs ba s))::H)):
  ∃d ae,Ev pv 160 [.ptr k 0 0] s0 d ae∧∃(t:List UInt8) (v:Bool) (m:Nat),d=.tup [.str t,.bool v]∧t.length≤120∧s.i+m≤gs.length∧Has N S ae (.box k (.mem 0 false (aF gs ba {s with i:=s.i+m}))::H):=by
 have hb:=hH.at at0;have hw:=eU (cs:=[.int .i64 0]) hH (hH.ge at0).1 (.inr rfl);have hl:=uU ((gs.map fun g=>((g.1:Nat):Int)).drop s.i) [];obtain⟨h1,h2⟩:=hl;simp only[List.length_drop,List.length_map,List.length_nil] at h1 h2;refine⟨_,_,Ev.prim rfl ?_,(digS ((gs.map fun g=>((g.1:Nat):Int)).drop s.i) []).1,decide (0<(digS ((gs.map fun g=>((g.1:Nat):Int)).drop s.i) []).2),(digS ((gs.map fun g=>((g.1:Nat):Int)).drop s.i) []).2,rfl,by omega,by omega,hH.rM (au:=0) at0⟩
 have hd:decide ((gs.map fun g=>((g.1:Nat):Int))≠[]∧(0:Int)≤(s.i:Nat)∧((s.i:Nat):Int).toNat≤(gs.map fun g=>((g.1:Nat):Int)).length∧(gs.map fun g=>((g.1:Nat):Int)).length<1099511627776)=true:=by
  rw[decide_eq_true];refine⟨by simpa using hne,by omega,by simp;omega,by simp;omega⟩
 show zH [.ptr k 0 0] s0=_;simp only[zH,St.mem_of hb];show(match h_ ((gs.map aP).map (iC 2)) with|some rs=>D3 s0 k 0 0 rs (s.i:Nat)|none=>none)=_;rw[mg];simp only[D3,hd];have hwr:=jN (cs:=[.int .i64 ((s.i+(digS ((gs.map fun g=>((g.1:Nat):Int)).drop s.i) []).2:Nat))]) (off:=2) hb (by show 2+1≤7;omega) hw;simp only[Int.toNat_natCast,Nat.zero_add];rw[hwr]
 rfl
def Cs (gs:List (Nat×Nat)) (s s':dJ) (d1:D) (b:Bool):Prop:=
 s'.o=s.o∧s'.g=s.g∧s.i≤s'.i∧s'.i≤gs.length∧(d1=.nul∨∃a,d1=aX a∧a.length≤8)∧(s'.e≠0∨s'.e=0∧s.i<s'.i∧∃a,d1=aX a∧a.length≤8∧a≠[])
theorem cy {bo:List Int} {s:dJ} {i:Nat} {e:Int} (he:s.e=0) (h:e≠0):(gq bo s i e).e≠0∧(gq bo s i e).i=s.i∧(gq bo s i e).o=s.o∧(gq bo s i e).g=s.g:=by
 unfold gq;rw[if_pos he];exact⟨h,rfl,rfl,rfl⟩
theorem xz {N k:Nat} {S s0:St} {H:List aN} {gs:List (Nat×Nat)} {ba:D} {bo:List Int} {s:dJ} (hok:jj gs bo) (he:s.e=0) (hi:s.i<gs.length) (hH:Has N S s0 (.box k (.mem 0 false (aF gs ba s))::.lst ba 1 (bo.map aj)::H)):
  ∃d ae,Ev pv 157 [.ptr k 0 0] s0 d ae∧∃(d1:D) (b:Bool) (s':dJ),d=.tup [d1,.bool b]∧Cs gs s s' d1 b∧Has N S ae (.box k (.mem 0 false (aF gs ba s'))::.lst ba 1 (bo.map aj)::H):=by
 have sO:=hok.gl;have hpl:=hok.pl;refine Ev.iB rfl IW rfl rfl rfl ?_;refine zE ?_;have bM:=hH;have hH:=hH.bO;have bL:(enterSt .rw s0).bs=s0.bs:=rfl;generalize enterSt .rw s0=S2 at*;have DQ:Arg N S2 2 (db gs) (gs.map aP):=Arg.pure (fun st=>cN st gs);refine zQ 22 ?_;refine qT hH at0 fun st hH=>?_;dsimp only[u2,u1,u3,u4,setMany,u5,u6,D.cells,Nat.reduceAdd,aF,aP,aj,ai] at hH;refine zQ 12 ?_;refine qn ?_;simp only[List.length_map];refine zQ 2 ?_;refine zP (fun h0=>?_) fun h0=>?_
 ·refine zQ 4 ?_;obtain⟨_,st,hev,rfl,hH⟩:=ck (s:={s with i:=s.i+1}) s.i 4 (by omega) hH;refine qv hev ?_;refine zQ 6 ?_;obtain⟨h1,h2,h3,h4⟩:=cy (bo:=bo) (s:={s with i:=s.i+1}) (i:=s.i) (e:=4) he (by decide);refine EvC.ret ⟨rx,_,_,_,rfl,af (rfl),?_⟩;exact⟨_,_,_,rfl,⟨h3,h4,by rw[h2];simp,by rw[h2];exact hi,.inl rfl,.inl h1⟩,bM.ak bL hH⟩
 ·obtain⟨g,hg⟩:∃g,gs[s.i+1]?=some g:=⟨gs[s.i+1]'(by omega),List.getElem?_eq_getElem _⟩
  have hr1:(gs.map aP)[s.i+1]?=some (aP g):=by rw[List.getElem?_map,hg];rfl
  have hlt:=lt_get hg;refine zQ 9 ?_;obtain⟨_,st,hev,rfl,hH⟩:=xc (s:={s with i:=s.i+1}) (s.i+1) hlt hH;refine qv hev ?_;refine zQ 1 ?_;dsimp only[aF] at hH;refine qc (fun hb=>?_) (fun hb=>?_)<;>try simp only[cs] at hb
  ·refine zQ 7 ?_;obtain⟨_,st,hev,rfl,hH⟩:=ck (s:={s with i:=s.i+1}) (s.i+1) 4 (by omega) hH;refine qv hev ?_;refine zQ 6 ?_;obtain⟨h1,h2,h3,h4⟩:=cy (bo:=bo) (s:={s with i:=s.i+1}) (i:=s.i+1) (e:=4) he (by decide);refine EvC.ret ⟨rx,_,_,_,rfl,af (rfl),?_⟩;exact⟨_,_,_,rfl,⟨h3,h4,by rw[h2];simp,by rw[h2];exact hi,.inl rfl,.inl h1⟩,bM.ak bL hH⟩
  ·refine zQ 11 ?_;refine qr fun JY Fq=>?_;refine qf (fo:=0) fun OS K2=>?_;refine zQ 12 ?_;refine qT hH at0 fun st hH=>?_;dsimp only[u2,u1,u3,u4,setMany,u5,u6,D.cells,Nat.reduceAdd,aF,aP,aj,ai] at hH;refine zQ 6 ?_
   have eO:∀(a:List Rg) (b:Bool),a.length≤8→a≠[]→Cs gs s {s with i:=s.i+1+1} (aX a) b:=fun a b h1 h2=>⟨rfl,rfl,by show s.i≤s.i+1+1;omega,by show s.i+1+1≤_;omega,.inr ⟨a,rfl,h1⟩,.inr ⟨he,by show s.i<s.i+1+1;omega,a,rfl,h1,h2⟩⟩
   have ir:∀(r:Int),0≤r→r<55296→(iX [(r,r)]).length≤8∧iX [(r,r)]≠[]:=by
    intro r h1 h2;obtain⟨_,h3,h4⟩:=ki (s0:=s0) (x:=aX [(r,r)]) (l:=[(r,r)]) (ef _ _) (by simp);exact⟨by simp at h3;omega,ur h1 h2 h4⟩
   refine zQ 6 ?_;refine zI (fun q1=>?_) fun q1=>?_
   ·refine zQ 2 ?_;refine qv (gI 10) ?_;refine zQ 3 ?_;refine EvC.ret ⟨rx,_,_,_,rfl,af (rfl),?_⟩;exact⟨_,_,_,rfl,eO _ _ (ir 10 (by decide) (by decide)).1 (ir 10 (by decide) (by decide)).2,bM.ak bL hH⟩
   ·refine zQ 5 ?_;refine zI (fun q2=>?_) fun q2=>?_
    ·refine zQ 2 ?_;refine qv (gI 9) ?_;refine zQ 3 ?_;refine EvC.ret ⟨rx,_,_,_,rfl,af (rfl),?_⟩;exact⟨_,_,_,rfl,eO _ _ (ir 9 (by decide) (by decide)).1 (ir 9 (by decide) (by decide)).2,bM.ak bL hH⟩
    ·refine zQ 5 ?_;refine zI (fun q3=>?_) fun q3=>?_
     ·refine zQ 2 ?_;refine qv (gI 13) ?_;refine zQ 3 ?_;refine EvC.ret ⟨rx,_,_,_,rfl,af (rfl),?_⟩;exact⟨_,_,_,rfl,eO _ _ (ir 13 (by decide) (by decide)).1 (ir 13 (by decide) (by decide)).2,bM.ak bL hH⟩
     ·refine zQ 5 ?_;refine zI (fun q4=>?_) fun q4=>?_
      ·refine zQ 2 ?_;refine EvO.eI (qs:=[(0,_),(1,_)]) rfl rfl rfl rfl ⟨rfl,(ev rfl),(by rfl),rfl,(ev rfl),(by rfl),trivial⟩ (by intro q hq;simp only[List.mem_cons,List.not_mem_nil,or_false] at hq;rcases hq with rfl|rfl<;>exact⟨rfl,by exact Nat.le_of_ble_eq_true rfl⟩) (by show List.foldl _ [_,_] _=_;dsimp only[List.foldl_cons,List.foldl_nil,u2,u1]<;>rfl) (put_T rfl _) ?_;refine qh (s:=2) (vs:=[_]) hH fun k73 st Qs hH=>?_;obtain⟨hev,hl,CF⟩:=ki (l:=[(48,57)]) (hH.rows at0) (by simp);refine qv hev ?_;refine zQ 3 ?_;refine EvC.ret ⟨rx,_,_,_,rfl,af (rfl),?_⟩;exact⟨_,_,_,rfl,eO _ _ (by simp at hl;omega) (sD (r:=48) (by decide) (by decide) ⟨_,List.mem_cons_self ..,by decide,by decide⟩ CF),bM.ak bL (hH.drop 1)⟩
      ·refine zQ 5 ?_;refine zI (fun q5=>?_) fun q5=>?_
       ·refine zQ 2 ?_;refine EvO.eI (qs:=[(0,_),(1,_)]) rfl rfl rfl rfl ⟨rfl,(ev rfl),(by rfl),rfl,(ev rfl),(by rfl),trivial⟩ (by intro q hq;simp only[List.mem_cons,List.not_mem_nil,or_false] at hq;rcases hq with rfl|rfl<;>exact⟨rfl,by exact Nat.le_of_ble_eq_true rfl⟩) (by show List.foldl _ [_,_] _=_;dsimp only[List.foldl_cons,List.foldl_nil,u2,u1]<;>rfl) (put_T rfl _) ?_;refine EvO.eI (qs:=[(0,_),(1,_)]) rfl rfl rfl rfl ⟨rfl,(ev rfl),(by rfl),rfl,(ev rfl),(by rfl),trivial⟩ (by intro q hq;simp only[List.mem_cons,List.not_mem_nil,or_false] at hq;rcases hq with rfl|rfl<;>exact⟨rfl,by exact Nat.le_of_ble_eq_true rfl⟩) (by show List.foldl _ [_,_] _=_;dsimp only[List.foldl_cons,List.foldl_nil,u2,u1]<;>rfl) (put_T rfl _) ?_;refine EvO.eI (qs:=[(0,_),(1,_)]) rfl rfl rfl rfl ⟨rfl,(ev rfl),(by rfl),rfl,(ev rfl),(by rfl),trivial⟩ (by intro q hq;simp only[List.mem_cons,List.not_mem_nil,or_false] at hq;rcases hq with rfl|rfl<;>exact⟨rfl,by exact Nat.le_of_ble_eq_true rfl⟩) (by show List.foldl _ [_,_] _=_;dsimp only[List.foldl_cons,List.foldl_nil,u2,u1]<;>rfl) (put_T rfl _) ?_;refine qh (s:=2) (vs:=[_,_,_]) hH fun k80 st Qq hH=>?_;obtain⟨hev,hl,CF⟩:=ki (l:=[(9,10),(13,13),(32,32)]) (hH.rows at0) (by simp);refine qv hev ?_;refine zQ 3 ?_;refine EvC.ret ⟨rx,_,_,_,rfl,af (rfl),?_⟩;exact⟨_,_,_,rfl,eO _ _ (by simp at hl;omega) (sD (r:=9) (by decide) (by decide) ⟨_,List.mem_cons_self ..,by decide,by decide⟩ CF),bM.ak bL (hH.drop 1)⟩
       ·refine zQ 5 ?_;refine zI (fun q6=>?_) fun q6=>?_
        ·refine zQ 2 ?_;refine EvO.eI (qs:=[(0,_),(1,_)]) rfl rfl rfl rfl ⟨rfl,(ev rfl),(by rfl),rfl,(ev rfl),(by rfl),trivial⟩ (by intro q hq;simp only[List.mem_cons,List.not_mem_nil,or_false] at hq;rcases hq with rfl|rfl<;>exact⟨rfl,by exact Nat.le_of_ble_eq_true rfl⟩) (by show List.foldl _ [_,_] _=_;dsimp only[List.foldl_cons,List.foldl_nil,u2,u1]<;>rfl) (put_T rfl _) ?_;refine EvO.eI (qs:=[(0,_),(1,_)]) rfl rfl rfl rfl ⟨rfl,(ev rfl),(by rfl),rfl,(ev rfl),(by rfl),trivial⟩ (by intro q hq;simp only[List.mem_cons,List.not_mem_nil,or_false] at hq;rcases hq with rfl|rfl<;>exact⟨rfl,by exact Nat.le_of_ble_eq_true rfl⟩) (by show List.foldl _ [_,_] _=_;dsimp only[List.foldl_cons,List.foldl_nil,u2,u1]<;>rfl) (put_T rfl _) ?_;refine EvO.eI (qs:=[(0,_),(1,_)]) rfl rfl rfl rfl ⟨rfl,(ev rfl),(by rfl),rfl,(ev rfl),(by rfl),trivial⟩ (by intro q hq;simp only[List.mem_cons,List.not_mem_nil,or_false] at hq;rcases hq with rfl|rfl<;>exact⟨rfl,by exact Nat.le_of_ble_eq_true rfl⟩) (by show List.foldl _ [_,_] _=_;dsimp only[List.foldl_cons,List.foldl_nil,u2,u1]<;>rfl) (put_T rfl _) ?_;refine EvO.eI (qs:=[(0,_),(1,_)]) rfl rfl rfl rfl ⟨rfl,(ev rfl),(by rfl),rfl,(ev rfl),(by rfl),trivial⟩ (by intro q hq;simp only[List.mem_cons,List.not_mem_nil,or_false] at hq;rcases hq with rfl|rfl<;>exact⟨rfl,by exact Nat.le_of_ble_eq_true rfl⟩) (by show List.foldl _ [_,_] _=_;dsimp only[List.foldl_cons,List.foldl_nil,u2,u1]<;>rfl) (put_T rfl _) ?_;refine qh (s:=2) (vs:=[_,_,_,_]) hH fun k88 st H6 hH=>?_;obtain⟨hev,hl,CF⟩:=ki (l:=[(48,57),(65,90),(95,95),(97,122)]) (hH.rows at0) (by simp);refine qv hev ?_;refine zQ 3 ?_;refine EvC.ret ⟨rx,_,_,_,rfl,af (rfl),?_⟩;exact⟨_,_,_,rfl,eO _ _ (by simp at hl;omega) (sD (r:=48) (by decide) (by decide) ⟨_,List.mem_cons_self ..,by decide,by decide⟩ CF),bM.ak bL (hH.drop 1)⟩
        ·refine zQ 5 ?_;refine qv (Dj _) ?_;refine zQ 2 ?_;refine EvC.cond (by rfl) (fun q7=>?_) (fun q7=>?_)<;>try simp only[decide_eq_true_eq,decide_eq_false_iff_not,Bool.not_eq_true',Bool.not_eq_false'] at q7
         ·refine zQ 4 ?_;obtain⟨_,st,hev,rfl,hH⟩:=ck (s:={s with i:=s.i+1+1}) s.i 4 (by omega) hH;refine qv hev ?_;refine zQ 6 ?_;obtain⟨h1,h2,h3,h4⟩:=cy (bo:=bo) (s:={s with i:=s.i+1+1}) (i:=s.i) (e:=4) he (by decide);refine EvC.ret ⟨rx,_,_,_,rfl,af (rfl),?_⟩;exact⟨_,_,_,rfl,⟨h3,h4,by rw[h2];show s.i≤s.i+1+1;omega,by rw[h2];show s.i+1+1≤_;omega,.inl rfl,.inl h1⟩,bM.ak bL hH⟩
         ·refine zQ 4 ?_;refine qv (gI _) ?_;refine zQ 3 ?_;have hm:=ir ((g.1:Nat):Int) (by omega) (by omega);refine EvC.ret ⟨rx,_,_,_,rfl,af (rfl),?_⟩;exact⟨_,_,_,rfl,eO _ _ hm.1 hm.2,bM.ak bL hH⟩
def aB (fr:Go.V.Fr) (k:Nat):Go.V.D:=Go.V.nth .junk fr.loc k
def df (b:Bool):List D:=[.bool b]
theorem o4 {l:List Bool} {i:Nat} {q:Bool} (h:l[i]?=some q):(l.map df)[i]?=some (df q):=by rw[List.getElem?_map,h];rfl
theorem o3 (l:List Bool):∀e∈l.map df,∀d∈e,bD d=true:=by
 intro e he d hd;obtain⟨x,_,rfl⟩:=List.mem_map.1 he;simp only[df,List.mem_cons,List.not_mem_nil,or_false] at hd;subst hd;rfl
theorem Ck (l:List Bool):∀e∈l.map df,e.length=1:=by
 intro e he;obtain⟨x,_,rfl⟩:=List.mem_map.1 he;rfl
def s_ (l:List Bool):D:=.sl ((l.map df).map (iC 1))
theorem rA (l:List Bool):SlD (s_ l) 1 (l.map df):=SlD.frozen (Ck l) (o3 l)
theorem lQ (l:List Int):∀e∈l.map aj,∀d∈e,bD d=true:=by
 intro e he d hd;obtain⟨x,_,rfl⟩:=List.mem_map.1 he;simp only[aj,List.mem_cons,List.not_mem_nil,or_false] at hd;subst hd;rfl
theorem Dq (l:List Int):∀e∈l.map aj,e.length=1:=by
 intro e he;obtain⟨x,_,rfl⟩:=List.mem_map.1 he;rfl
def Bg (l:List Int):D:=.sl ((l.map aj).map (iC 1))
theorem uA (l:List Int):SlD (Bg l) 1 (l.map aj):=SlD.frozen (Dq l) (lQ l)
def bA (pc:Nat) (i:az):List Int:=
 if i.op=2 then[i.x,i.y] else if i.op=3 then[i.x] else if i.op=7 then[] else[((pc+1:Nat):Int)]
def gm (code:List az):Prop:=∀pc i,code[pc]?=some i→∀v∈bA pc i,0≤v∧v<code.length
theorem tA {n ns pc:Nat} {i:az} (h:cw n ns pc i=true):∀v∈bA pc i,0≤v∧v<n:=by
 intro v hv
 have cT:∀a b:Int,oy a b=true→0≤a∧a<b:=fun a b h=>by
  unfold oy at h;simp only[Bool.and_eq_true,decide_eq_true_eq] at h;exact⟨h.1,h.2⟩
 unfold cw at h;unfold bA at hv
 split at h
 ·rename_i h1;rw[if_neg (by omega),if_neg (by omega),if_neg (by omega)] at hv;simp only[Bool.and_eq_true,decide_eq_true_eq] at h;simp only[List.mem_cons,List.not_mem_nil,or_false] at hv;subst hv;omega
 ·simp only[Bool.and_eq_true] at h;obtain⟨_,h⟩:=h
  split at h
  ·rename_i h2;rw[if_pos h2] at hv;simp only[Bool.and_eq_true] at h;simp only[List.mem_cons,List.not_mem_nil,or_false] at hv
   rcases hv with rfl|rfl
   ·exact cT _ _ h.1
   ·exact cT _ _ h.2
  ·rename_i h2;rw[if_neg h2] at hv;simp only[Bool.and_eq_true] at h;obtain⟨_,h⟩:=h
   split at h
   ·rename_i h3;rw[if_pos h3] at hv;simp only[List.mem_cons,List.not_mem_nil,or_false] at hv;subst hv;exact cT _ _ h
   ·rename_i h3;rw[if_neg h3] at hv
    split at h
    ·rename_i h4;rw[if_neg (by omega)] at hv;simp only[Bool.and_eq_true,decide_eq_true_eq] at h;simp only[List.mem_cons,List.not_mem_nil,or_false] at hv;subst hv;omega
    ·split at h
     ·rename_i h5;rw[if_neg (by omega)] at hv;simp only[Bool.and_eq_true,decide_eq_true_eq] at h;simp only[List.mem_cons,List.not_mem_nil,or_false] at hv;subst hv;omega
     ·split at h
      ·rename_i h7;rw[if_pos h7] at hv;cases hv
      ·cases h
def wX (code:List az):Nat→List Bool→List Int→List Bool
 |0,seen,_=>seen
 |_+1,seen,[]=>seen
 |f+1,seen,v::dV=>match seen[v.toNat]? with
  |some false=>match code[v.toNat]? with
   |some i=>wX code f (seen.set v.toNat true) ((bA v.toNat i).reverse++dV)
   |none=>seen
  |_=>wX code f seen dV
def a8 (code:List az) (start:Int):List Bool:=wX code (3*code.length+1) (List.replicate code.length false) [start]
theorem sY (code:List az):∀(f:Nat) (seen:List Bool) (dV:List Int),(wX code f seen dV).length=seen.length
 |0,_,_=>rfl
 |_+1,_,[]=>rfl
 |f+1,seen,v::dV=>by
  unfold wX
  split
  ·split
   ·rw[sY code f];simp
   ·rfl
  ·exact sY code f seen dV
theorem nO (code:List az) (s:Int):(a8 code s).length=code.length:=by
 unfold a8;rw[sY];simp
theorem count_set {seen:List Bool} {k:Nat} (h:seen[k]?=some false):(seen.set k true).count false+1=seen.count false:=by
 induction seen generalizing k with
 |nil=>simp at h
 |cons b l ih=>
  cases k with
  |zero=>simp at h;subst h;simp
  |succ k=>
   have:=ih (k:=k) (by simpa using h);simp only[List.set_cons_succ,List.count_cons];omega
theorem ud (pc:Nat) (i:az):(bA pc i).length≤2:=by
 unfold bA;split
 ·simp
 ·split
  ·simp
  ·split<;>simp
theorem Ak (v:Int) (r:List Int):((v::r).reverse.map aj)[r.length]?=some (aj v):=by
 rw[List.getElem?_map,List.reverse_cons,List.getElem?_append_right (by simp)];simp
theorem CQ (v:Int) (r:List Int):(((v::r).reverse.map aj).take r.length).drop 0=r.reverse.map aj:=by
 rw[List.reverse_cons,List.map_append,List.drop_zero,List.take_left' (by simp)]
theorem yf {s0:St} {cd:D} {code:List az} {start:Int} (tj:SlD cd 4 (code.map aA)) (hlen:code.length≤1048576) (hcl:gm code) (fv:0≤start∧start<code.length):Ev pv 101 [cd,.int .i64 start] s0 (s_ (a8 code start)) s0:=by
 refine Ev.mk1 rfl Jh rfl rfl rfl ?_;refine zE ?_;obtain⟨hSb,hF,hH⟩:=ri s0;generalize enterSt .ro s0=S at*;have hc:=tj.arg s0.bs.length S;refine zQ 7 ?_;refine qn ?_;simp only[List.length_map];refine EvO.x5 (s:=1) hH rfl rfl rfl rfl rfl rfl rfl rfl (Nat.le_of_ble_eq_true rfl) (by omega) (fun _=>by dsimp only[Fr.put,u1,u2]<;>rfl) (fun k11 st hk11 hH=>?_);refine zQ 5 ?_;refine qh (s:=1) (vs:=[_]) hH fun k13 st Ia hH=>?_;refine zQ 4 ?_;refine EvC.loop (fun mm fr st=>∃(y z:D) (seen:List Bool) (dV:List Int),fr.clean=⟨41,[cd,aB fr 1,aB fr 2,aB fr 3,.nul,y,z,aB fr 7,aB fr 8,aB fr 9,aB fr 10,aB fr 11,aB fr 12,aB fr 13,aB fr 14,aB fr 15,aB fr 16,aB fr 17,aB fr 18,aB fr 19,aB fr 20,aB fr 21,aB fr 22,aB fr 23,aB fr 24,aB fr 25,aB fr 26,aB fr 27,aB fr 28,aB fr 29,aB fr 30,aB fr 31,aB fr 32,aB fr 33,aB fr 34,aB fr 35,aB fr 36,aB fr 37,aB fr 38,aB fr 39,aB fr 40],[]⟩∧Has s0.bs.length S st [.lst z 1 (dV.reverse.map aj),.lst y 1 (seen.map df)]∧(wX code mm seen dV=a8 code start)∧(3*seen.count false+dV.length≤mm)∧(seen.length=code.length)∧(∀v∈dV,0≤v∧v<(code.length:Int))∧(mm≤3*code.length+1)) (3*code.length+1) ?_ ?_
 ·exact⟨_,_,List.replicate code.length false,[start],rfl,(by rw[List.map_replicate];exact hH),rfl,by simp,by simp,by simpa using fv,by omega⟩
 rintro mm fr st ⟨y,z,seen,dV,hfr,hH,hd,hm,il,hsk,wA⟩;rw[hfr];clear hfr;generalize aB fr=ee;clear fr
 rcases dV with _|⟨v,dV⟩
 ·refine zQ 4 ?_;refine qn ?_ (hR:=hH.rows at0);simp only[List.length_map,List.length_nil,List.length_reverse];refine zQ 2 ?_;refine EvC.cond (v:=false) (by dsimp only[Fr.ev,Fr.get,nth,V.look];rfl) (fun h=>by cases h) (fun _=>?_);refine zQ 6 ?_;have eO:seen=a8 code start:=by rw[←hd];cases mm<;>rfl
  rw[←eO];refine EvC.ret ⟨rx,_,rfl,rl hSb hH ?_⟩;exact hH.freeze at1 (o3 _) (n:=15) (by decide)
 ·have hv:=hsk v (List.mem_cons_self ..);obtain⟨k,rfl⟩:=Int.eq_ofNat_of_zero_le hv.1;have hk:k<code.length:=by omega
  simp only[List.length_cons] at hm
  obtain⟨mm,rfl⟩:∃m',mm=m'+1:=⟨mm-1,by omega⟩
  obtain⟨b,hb⟩:∃b,seen[k]?=some b:=⟨seen[k]'(by omega),List.getElem?_eq_getElem _⟩
  obtain⟨i,hi⟩:∃i,code[k]?=some i:=⟨code[k]'(by omega),List.getElem?_eq_getElem _⟩
  have hr1:=Ak (k:Int) dV;have mN:=o4 hb;have KP:=ft hi;refine zQ 4 ?_;refine qn ?_ (hR:=hH.rows at0);simp only[List.length_map,List.length_cons,List.length_reverse];refine zQ 2 ?_;refine qD rfl (by simp) ?_;refine zQ 6 ?_;refine qn ?_ (hR:=hH.rows at0);simp only[List.length_map,List.length_cons,List.length_reverse];refine EvO.kb (z:=((dV.length:Nat):Int)) rfl (ev rfl) (ev rfl) (by(try simp only[List.length_reverse,List.length_cons,List.length_nil,List.length_append,List.length_map,List.length_set]);rw[wrap_i64 (by omega) (by omega)]<;>omega) (by dsimp only[Fr.put,u1,u2]<;>rfl) ?_;refine qi hH at0 fun J4 Fx=>?_;refine zQ 7 ?_;refine qn ?_ (hR:=hH.rows at0);simp only[List.length_map,List.length_cons,List.length_reverse];refine EvO.kb (z:=((dV.length:Nat):Int)) rfl (ev rfl) (ev rfl) (by(try simp only[List.length_reverse,List.length_cons,List.length_nil,List.length_append,List.length_map,List.length_set]);rw[wrap_i64 (by omega) (by omega)]<;>omega) (by dsimp only[Fr.put,u1,u2]<;>rfl) ?_;refine EvO.AQ hH rfl (ev rfl) (by exact at0) rfl rfl (l4 (by simp only[List.length_map,List.length_reverse,List.length_cons,List.length_append,List.length_nil,List.length_take,List.length_drop,List.length_set,List.length_replicate];omega)) ⟨(by omega),(by simp only[List.length_map,List.length_reverse,List.length_cons,List.length_append,List.length_nil,List.length_take,List.length_drop,List.length_set,List.length_replicate];omega)⟩ (fun _=>by dsimp only[Fr.put,u1,u2]<;>rfl) (fun RZ hH=>?_);refine zQ 2 ?_;dsimp only[u2] at hH;rw[CQ] at hH;have fv:∀w∈dV,0≤w∧w<(code.length:Int):=fun w hw=>hsk w (List.mem_cons_of_mem _ hw);refine zQ 5 ?_;refine qi hH at1 fun Nn HF=>?_;refine zQ 2 ?_
  cases b with
  |true=>
   refine zQ 2 ?_;simp only[wX,Int.toNat_natCast,hb] at hd;exact⟨mm,by omega,⟨_,_,seen,dV,rfl,hH,hd,by omega,il,fv,by omega⟩⟩
  |false=>
   have BI:=count_set hb;have fW:(seen.set k true).map df=(seen.map df).set k [.bool true]:=by rw[List.map_set];rfl
   simp only[wX,Int.toNat_natCast,hb,hi] at hd;have Qa:=hcl k i hi;have Lh:=ud k i
   have KF:∀w∈(bA k i).reverse++dV,0≤w∧w<(code.length:Int):=fun w hw=>by
    rcases List.mem_append.1 hw with hw|hw
    ·exact Qa w (List.mem_reverse.1 hw)
    ·exact fv w hw
   have KO:(((bA k i).reverse++dV).reverse).map aj=dV.reverse.map aj++(bA k i).map aj:=by
    rw[List.reverse_append,List.reverse_reverse,List.map_append]
   refine zQ 6 ?_;refine qi hH at1 fun Sw P4=>?_;refine EvO.jR hH rfl (ev rfl) (ev rfl) (by assumption) rfl rfl (by exact at1) (by assumption) (Nat.le_of_ble_eq_true rfl) (by exact .inl hF) (fun st hH=>?_);dsimp only[u2,u1,u3,u4,setMany,u5,u6,D.cells,Nat.reduceAdd,aA,aj,df] at hH;refine zQ 5 ?_;refine qr fun J0 Ft=>?_;refine EvO.cq rfl (ev rfl) (by assumption) rfl (by dsimp only[Fr.put,u1,u2]<;>rfl) ?_;refine qa hH fun k8 st hk8 hH=>?_;refine qS hH at0 fun st hH=>?_;dsimp only[u2,u1,u3,u4,setMany,u5,u6,D.cells,Nat.reduceAdd,aA,aj,df] at hH;refine zQ 6 ?_;refine EvC.merge (fun fr st=>∃(z:D) (tmp:List (Nat×D)),fr=⟨41,[cd,aB fr 1,aB fr 2,aB fr 3,.nul,y,z,aB fr 7,aB fr 8,aB fr 9,aB fr 10,aB fr 11,aB fr 12,aB fr 13,aB fr 14,aB fr 15,aB fr 16,aB fr 17,aB fr 18,aB fr 19,aB fr 20,aB fr 21,aB fr 22,aB fr 23,aB fr 24,aB fr 25,aB fr 26,aB fr 27,aB fr 28,aB fr 29,aB fr 30,aB fr 31,aB fr 32,aB fr 33,aB fr 34,aB fr 35,aB fr 36,aB fr 37,aB fr 38,aB fr 39,aB fr 40],tmp⟩∧Has s0.bs.length S st [.lst z 1 (dV.reverse.map aj++(bA k i).map aj),.lst y 1 ((seen.map df).set k [.bool true])]) ?_ ?_
   ·refine zQ 6 ?_;refine zI (fun h2=>?_) fun h2=>?_
    ·have:bA k i=[i.x,i.y]:=by unfold bA;rw[if_pos h2]
     rw[this];refine zQ 6 ?_;refine qh (s:=1) (vs:=[_,_]) hH fun k53 st Qw hH=>?_;refine EvO.happend (s:=1) hH rfl (ev rfl) (ev rfl) (by exact at2) (by exact hH.rows (by exact at0)) rfl rfl rfl rfl rfl rfl rfl ⟨(Nat.le_of_ble_eq_true rfl),(Nat.le_of_ble_eq_true rfl)⟩ (fun _=>(put_T rfl _)) (by simp only[List.length_cons,List.length_nil,List.length_map,List.length_reverse]<;>omega) (by exact .inl hF) (fun R3 st hH=>?_);dsimp only[u2,u1,u3,u4,setMany,u5,u6,D.cells,Nat.reduceAdd,aA,aj,df] at hH;refine zQ 2 ?_;exact⟨_,_,rfl,(by have:=hH.drop 2;exact this)⟩
    ·refine zQ 5 ?_;refine zI (fun h3=>?_) fun h3=>?_
     ·have:bA k i=[i.x]:=by unfold bA;rw[if_neg h2,if_pos h3]
      rw[this];refine zQ 4 ?_;refine qh (s:=1) (vs:=[_]) hH fun k60 st Qu hH=>?_;refine EvO.happend (s:=1) hH rfl (ev rfl) (ev rfl) (by exact at2) (by exact hH.rows (by exact at0)) rfl rfl rfl rfl rfl rfl rfl ⟨(Nat.le_of_ble_eq_true rfl),(Nat.le_of_ble_eq_true rfl)⟩ (fun _=>(put_T rfl _)) (by simp only[List.length_cons,List.length_nil,List.length_map,List.length_reverse]<;>omega) (by exact .inl hF) (fun R2 st hH=>?_);dsimp only[u2,u1,u3,u4,setMany,u5,u6,D.cells,Nat.reduceAdd,aA,aj,df] at hH;refine zQ 2 ?_;exact⟨_,_,rfl,(by have:=hH.drop 2;exact this)⟩
     ·refine zQ 5 ?_;refine zI (fun h7=>?_) fun h7=>?_
      ·have:bA k i=[]:=by unfold bA;rw[if_neg h2,if_neg h3,if_pos h7]
       rw[this,List.map_nil,List.append_nil];refine zQ 1 ?_;exact⟨_,_,rfl,(by have:=hH.drop 1;exact this)⟩
      ·have:bA k i=[((k+1:Nat):Int)]:=by unfold bA;rw[if_neg h2,if_neg h3,if_neg h7]
       rw[this];refine zQ 4 ?_;refine qh (s:=1) (vs:=[_]) hH fun k44 st QA hH=>?_;refine EvO.happend (s:=1) hH rfl (ev rfl) (ev rfl) (by exact at2) (by exact hH.rows (by exact at0)) rfl rfl rfl rfl rfl rfl rfl ⟨(Nat.le_of_ble_eq_true rfl),(Nat.le_of_ble_eq_true rfl)⟩ (fun _=>(put_T rfl _)) (by simp only[List.length_cons,List.length_nil,List.length_map,List.length_reverse]<;>omega) (by exact .inl hF) (fun R4 st hH=>?_);dsimp only[u2,u1,u3,u4,setMany,u5,u6,D.cells,Nat.reduceAdd,aA,aj,df] at hH;refine zQ 2 ?_;exact⟨_,_,rfl,(by have:=hH.drop 2;exact this)⟩
   ·rintro fr st ⟨z,tmp,hfr,hH⟩;rw[hfr];clear hfr;generalize aB fr=ee;clear fr;exact⟨mm,by omega,⟨y,z,seen.set k true,(bA k i).reverse++dV,rfl,(by rw[KO,fW];exact hH),hd,by simp only[List.length_append,List.length_reverse];omega,by simp only[List.length_set];exact il,KF,by omega⟩⟩
def ag (fr:Go.V.Fr) (k:Nat):Go.V.D:=Go.V.nth .junk fr.loc k
noncomputable def dec (q:Prop):Bool:=@decide q (Classical.propDecidable q)
theorem cV {q:Prop} (h:q):dec q=true:=@decide_eq_true q (Classical.propDecidable q) h
theorem iy {q:Prop} (h:¬q):dec q=false:=@decide_eq_false q (Classical.propDecidable q) h
def nQ (p:Pg) (r:Nat) (s:Int) (n:Nat):Prop:=∀pc i,pc<n→(a8 p.code s)[pc]?=some true→p.code[pc]?=some i→i.op=7→i.x=(r:Int)
structure aR (p:Pg):Prop where
 cl:p.code.length≤400
 sl:p.aq.length≤8
 sh:∀pc i,p.code[pc]?=some i→cw p.code.length p.aq.length pc i=true
 st:∀v∈p.aq,0≤v∧v<(p.code.length:Int)
 fo:∀r s,p.aq[r]?=some s→nQ p r s p.code.length
theorem lZ {p:Pg} (h:∀pc i,p.code[pc]?=some i→cw p.code.length p.aq.length pc i=true):gm p.code:=
 fun pc i hi=>tA (h pc i hi)
theorem aR.closed {p:Pg} (h:aR p):gm p.code:=lZ h.sh
theorem cT {a b:Int}:oy a b=true↔0≤a∧a<b:=by
 unfold oy;simp only[Bool.and_eq_true,decide_eq_true_eq,ge_iff_le]
theorem jM {s0:St} {p:Pg} (hp:p.ok):Ev pv 62 [p.d] s0 (.bool (dec (aR p))) s0:=by
 refine Ev.mk1 rfl Mr rfl rfl rfl ?_;refine zE ?_;obtain⟨hSb,hF,hH⟩:=ri s0;generalize enterSt .ro s0=S at*;have hc:=hp.c.arg s0.bs.length S;have hs:=hp.s.arg s0.bs.length S;have tj:=hp.c;have hlen:=hp.cl;have Hu:=hp.sl;unfold Pg.d;refine zQ 2 ?_;refine qb hH fun k1 st oE hH=>?_;dsimp only[u2,u1,u3,u4,setMany,u5,u6,D.cells,Nat.reduceAdd,Pg.cs,aA,aj,df] at hH;refine zQ 4 ?_;refine EvC.jI 17 (.bool (decide ((p.code.length:Int)>400)||decide ((p.aq.length:Int)>8))) [8,9,10,11,12,13,14,15,16] ?_ (fun ff tmp=>?_)
 ·refine zQ 2 ?_;refine qn ?_;simp only[List.length_map];refine zQ 2 ?_;refine EvO.two 12 rfl (fun hg4=>?_) (fun hg4=>?_)
  ·refine zQ 5 ?_;refine EvO.nil (aI ?_);refine zG ?_
   all_goals(simp[hg4];done)
  ·refine zQ 2 ?_;refine qn ?_ (hg:=wi hg4);simp only[List.length_map];refine zQ 2 ?_;refine EvO.nil (aI ?_);refine zG ?_
   all_goals(simp[hg4];done)
 dsimp only[setW,List.foldl,nth,u2,u1];generalize ff 8=e8;generalize ff 9=e9;generalize ff 10=RV;generalize ff 11=RU;generalize ff 12=RT;generalize ff 13=RS;generalize ff 14=RR;generalize ff 15=RQ;generalize ff 16=RP;refine qc (fun h0=>?_) (fun h0=>?_)<;>try simp only[cs] at h0
 ·rw[iy (fun h=>by have:=h.cl;have:=h.sl;simp at h0;omega)];refine zQ 4 ?_;refine EvC.ret ⟨rx,_,rfl,rl hSb hH (rfl)⟩
 ·have h0:p.code.length≤400∧p.aq.length≤8:=by simp at h0;omega
  refine zQ 6 ?_;refine qn ?_;simp only[List.length_map];refine zQ 3 ?_;refine EvC.loop (fun mm fr st=>∃(i:Nat),fr.clean=⟨49,[ag fr 0,.ptr k1 0 0,.bool false,ag fr 3,ag fr 4,ag fr 5,ag fr 6,ag fr 7,ag fr 8,ag fr 9,ag fr 10,ag fr 11,ag fr 12,ag fr 13,ag fr 14,ag fr 15,ag fr 16,ag fr 17,ag fr 18,ag fr 19,.int .i64 (p.code.length:Nat),.int .i64 (i:Nat),ag fr 22,ag fr 23,ag fr 24,ag fr 25,ag fr 26,ag fr 27,ag fr 28,ag fr 29,ag fr 30,ag fr 31,ag fr 32,ag fr 33,ag fr 34,ag fr 35,ag fr 36,ag fr 37,ag fr 38,ag fr 39,ag fr 40,ag fr 41,ag fr 42,ag fr 43,ag fr 44,ag fr 45,ag fr 46,ag fr 47,ag fr 48],[]⟩∧Has s0.bs.length S st [.box k1 (.mem 0 false [p.cd,p.sd])]∧(i+mm=p.code.length)∧(∀pc q,pc<i→p.code[pc]?=some q→cw p.code.length p.aq.length pc q=true)) (p.code.length) ?_ ?_
  ·exact⟨0,rfl,hH,by omega,by intro pc q h;omega⟩
  rintro mm fr st ⟨i,hfr,hH,hi,hsh⟩;rw[hfr];clear hfr;generalize ag fr=ee;clear fr;refine zQ 5 ?_;refine zP (fun h1=>?_) fun h1=>?_
  ·refine zQ 1 ?_
   obtain⟨q,hq⟩:∃q,p.code[i]?=some q:=⟨p.code[i]'(by omega),List.getElem?_eq_getElem _⟩
   refine zQ 9 ?_;refine EvO.hloadS (m:=2) hH rfl (ev rfl) (by exact at0) (by dsimp only[List.drop_succ_cons,List.drop_zero,List.take_succ_cons,List.take_zero,Pg.cs,aA,aj,df]<;>rfl) rfl rfl (by dsimp only[Fr.put,u1,u2]<;>rfl) ?_;refine qm ?_;refine qv (yH (p:=p) hp hq) ?_;refine zQ 2 ?_;refine EvC.cond (by rfl) (fun h2=>?_) (fun h2=>?_)<;>try simp only[Bool.not_eq_true',Bool.not_eq_false'] at h2
   ·rw[iy (fun h=>by have:=h.sh i q hq;rw[this] at h2;cases h2)];refine zQ 4 ?_;refine EvC.ret ⟨rx,_,rfl,rl hSb hH (rfl)⟩
   ·refine zQ 5 ?_;refine⟨mm-1,by omega,⟨i+1,rfl,hH,by omega,?_⟩⟩;intro pc q' Bt py
    by_cases he:pc=i
    ·subst he;rw[hq] at py;cases py;simpa using h2
    ·exact hsh pc q' (by omega) py
  ·refine zQ 1 ?_;have hsh:∀pc q,p.code[pc]?=some q→cw p.code.length p.aq.length pc q=true:=fun pc q hq=>hsh pc q (by have:=lt_get hq;omega) hq;have hcl:=lZ hsh;refine zQ 5 ?_;refine qn ?_;simp only[List.length_map];refine zQ 3 ?_;refine EvC.loop (fun mm fr st=>∃(r:Nat),fr.clean=⟨49,[ag fr 0,.ptr k1 0 0,.bool false,ag fr 3,ag fr 4,ag fr 5,ag fr 6,ag fr 7,ag fr 8,ag fr 9,ag fr 10,ag fr 11,ag fr 12,ag fr 13,ag fr 14,ag fr 15,ag fr 16,ag fr 17,ag fr 18,ag fr 19,ag fr 20,ag fr 21,ag fr 22,ag fr 23,ag fr 24,ag fr 25,ag fr 26,ag fr 27,ag fr 28,ag fr 29,p.sd,.int .i64 (p.aq.length:Nat),.int .i64 (r:Nat),ag fr 33,ag fr 34,ag fr 35,ag fr 36,ag fr 37,ag fr 38,ag fr 39,ag fr 40,ag fr 41,ag fr 42,ag fr 43,ag fr 44,ag fr 45,ag fr 46,ag fr 47,ag fr 48],[]⟩∧Has s0.bs.length S st [.box k1 (.mem 0 false [p.cd,p.sd])]∧(r+mm=p.aq.length)∧(∀r' s,r'<r→p.aq[r']?=some s→(0≤s∧s<(p.code.length:Int))∧nQ p r' s p.code.length)) (p.aq.length) ?_ ?_
   ·exact⟨0,rfl,hH,by omega,by intro pc q h;omega⟩
   rintro mm fr st ⟨r,hfr,hH,hi,hok⟩;rw[hfr];clear hfr;generalize ag fr=ee;clear fr;refine zQ 5 ?_;refine zP (fun h3=>?_) fun h3=>?_
   ·refine zQ 1 ?_
    obtain⟨s,kZ⟩:∃s,p.aq[r]?=some s:=⟨p.aq[r]'(by omega),List.getElem?_eq_getElem _⟩
    have JB:=dI kZ;refine zQ 5 ?_;refine qr fun Jv DE=>?_;refine zQ 10 ?_;refine qn ?_;simp only[List.length_map];refine qv (fy _ _) ?_;refine zQ 2 ?_;refine EvC.cond (by rfl) (fun h4=>?_) (fun h4=>?_)<;>try simp only[Bool.not_eq_true',Bool.not_eq_false'] at h4
    ·rw[iy (fun h=>by have:=cT.2 (h.st s (List.mem_of_getElem? kZ));rw[this] at h4;cases h4)];refine zQ 4 ?_;refine EvC.ret ⟨rx,_,rfl,rl hSb hH (rfl)⟩
    ·have Hv:=cT.1 (show oy s p.code.length=true by simpa using h4);refine zQ 1 ?_;have px:=nO p.code s;have JA:=(rA (a8 p.code s)).arg s0.bs.length S;refine zQ 5 ?_;refine qv (yf tj hlen hcl Hv) ?_;refine qn ?_;simp only[List.length_map];refine zQ 3 ?_;refine EvC.loop (fun mm fr st=>∃(i:Nat),fr.clean=⟨49,[ag fr 0,.ptr k1 0 0,.bool false,ag fr 3,.int .i64 (r:Nat),ag fr 5,ag fr 6,ag fr 7,ag fr 8,ag fr 9,ag fr 10,ag fr 11,ag fr 12,ag fr 13,ag fr 14,ag fr 15,ag fr 16,ag fr 17,ag fr 18,ag fr 19,ag fr 20,ag fr 21,ag fr 22,ag fr 23,ag fr 24,ag fr 25,ag fr 26,ag fr 27,ag fr 28,ag fr 29,p.sd,.int .i64 (p.aq.length:Nat),.int .i64 (r:Nat),ag fr 33,ag fr 34,ag fr 35,ag fr 36,ag fr 37,ag fr 38,ag fr 39,ag fr 40,ag fr 41,ag fr 42,ag fr 43,ag fr 44,ag fr 45,s_ (a8 p.code s),.int .i64 ((a8 p.code s).length:Nat),.int .i64 (i:Nat)],[]⟩∧Has s0.bs.length S st [.box k1 (.mem 0 false [p.cd,p.sd])]∧(i+mm=p.code.length)∧(nQ p r s i)) (p.code.length) ?_ ?_
     ·exact⟨0,rfl,hH,by omega,by intro pc q h;omega⟩
     rintro mm fr st ⟨i,hfr,hH,hj,hom⟩;rw[hfr];clear hfr;generalize ag fr=ee;clear fr;refine zQ 5 ?_;refine zP (fun h5=>?_) fun h5=>?_
     ·refine zQ 1 ?_
      obtain⟨b,hb⟩:∃b,(a8 p.code s)[i]?=some b:=⟨(a8 p.code s)[i]'(by omega),List.getElem?_eq_getElem _⟩
      obtain⟨q,hq⟩:∃q,p.code[i]?=some q:=⟨p.code[i]'(by omega),List.getElem?_eq_getElem _⟩
      have hr1:=o4 hb;have mN:=ft hq;refine zQ 5 ?_;refine qr fun OS K2=>?_;refine zQ 5 ?_;refine EvC.cutT 72 (.bool ((b &&(q.op==7)) &&(q.x !=(r:Int)))) [] ?_ (fun ff tmp htmp=>?_)
      ·refine zQ 2 ?_;refine EvO.two 54 rfl (fun hD=>?_) (fun hD=>?_)
       ·refine zQ 3 ?_;refine qr (fun Sr PY=>?_) (hg:=wi hD);refine qf (fo:=0) (fun Sq PX=>?_) (hg:=wi hD);refine zQ 4 ?_;refine EvO.two 63 rfl (fun cm=>?_) (fun cm=>?_)
        ·refine zQ 3 ?_;refine qr (fun Sj PS=>?_) (hg:=wi cm);refine qf (fo:=1) (fun Si PR=>?_) (hg:=wi cm);refine zQ 4 ?_;refine EvO.nil (leafT ?_ ?_)
         ·dsimp only[setW,List.foldl,nth,u2,u1]
          all_goals(first|rfl|simp)
         ·refine zF ?_
          all_goals(simp[hD,cm];done)
        ·refine zQ 9 ?_;refine EvO.nil (leafT ?_ ?_)
         ·dsimp only[setW,List.foldl,nth,u2,u1]
          all_goals(first|rfl|simp)
         ·refine zF ?_
          all_goals(simp[hD,cm];done)
       ·refine zQ 18 ?_;refine EvO.nil (leafT ?_ ?_)
        ·dsimp only[setW,List.foldl,nth,u2,u1]
         all_goals(first|rfl|simp)
        ·refine zF ?_
         all_goals(simp[hD];done)
      refine zG ?_;refine qc (fun h6=>?_) (fun h6=>?_)<;>try simp only[cs] at h6
      ·rw[iy (fun h=>by
        have h7:=h.fo r s kZ i q (by omega);simp only[Bool.and_eq_true,beq_iff_eq,bne_iff_ne,ne_eq] at h6;obtain⟨⟨rfl,h8⟩,h9⟩:=h6
        exact h9 (h7 hb hq h8))]
       refine zQ 4 ?_;refine EvC.ret ⟨rx,_,rfl,rl hSb hH (rfl)⟩
      ·refine zQ 5 ?_;refine⟨mm-1,by omega,⟨i+1,rfl,hH,by omega,?_⟩⟩;intro pc q' Bt DB py eB
       by_cases he:pc=i
       ·subst he;rw[hq] at py;cases py;rw[hb] at DB;cases DB;simp[eB] at h6;exact h6
       ·exact hom pc q' (by omega) DB py eB
     ·refine zQ 5 ?_;refine⟨p.aq.length-(r+1),by omega,⟨r+1,rfl,hH,by omega,?_⟩⟩;intro r' s' Gz oC
      by_cases he:r'=r
      ·subst he;rw[kZ] at oC;cases oC;exact⟨Hv,fun pc q Bt=>hom pc q (by omega)⟩
      ·exact hok r' s' (by omega) oC
   ·refine zQ 1 ?_
    rw[cV ⟨h0.1,h0.2,hsh,fun v hv=>by
     obtain⟨r',Gz⟩:=List.getElem?_of_mem hv
     exact(hok r' v (by have:=lt_get Gz;omega) Gz).1,fun r' s' oC=>(hok r' s' (by have:=lt_get oC;omega) oC).2⟩]
    refine zQ 4 ?_;refine EvC.ret ⟨rx,_,rfl,rl hSb hH (rfl)⟩
def nW:Nat→List Bool→List Int
 |_,[]=>[]
 |i,b::l=>(if b then[(i:Int)] else[])++nW (i+1) l
noncomputable def nP (p:Pg) (G2:Int):List Int:=if dec (aR p) &&oy G2 p.aq.length then nW 0 (a8 p.code (p.aq.getD G2.toNat 0)) else[]
def de (i:az):az:=⟨i.op,i.x,i.y,.sl ((i.rs.map ai).map (iC 2)),i.rs⟩
theorem B7 {i:az} (h:i.ok):(de i).ok:=⟨SlD.frozen (jt _) (c9 _),h.2⟩
def oV (q:az):List D:=aA (de q)
structure Nod where
 op:Int
 rd:D
 rs:List Rg
 mn:Int
 mx:Int
 lz:Bool
 cap:Int
 kids:Int
def aO (n:Nod):List D:=[.int .i64 n.op,n.rd,.int .i64 n.mn,.int .i64 n.mx,.bool n.lz,.int .i64 n.cap,.int .i64 n.kids]
def Nod.ok (n:Nod):Prop:=SlD n.rd 2 (n.rs.map ai)∧n.rs.length≤1048576∧n.kids≤9223372036854775807
structure Nl where
 d:D
 l:List Nod
structure Nl.ok (x:Nl):Prop where
 c:SlD x.d 7 (x.l.map aO)
 i:∀n∈x.l,n.ok
 nl:x.l.length≤1048576
theorem jy {l:List Nod} {i:Nat} {q:Nod} (h:l[i]?=some q):(l.map aO)[i]?=some (aO q):=by rw[List.getElem?_map,h];rfl
mutual
inductive Tr where
 |mk (n:Nod) (ks:aW)
inductive aW where
 |nil
 |cons (t:Tr) (ts:aW)
end
def aW.len:aW→Nat
 | .nil=>0
 | .cons _ ts=>ts.len+1
mutual
def Tr.flat:Tr→List Nod
 | .mk n ks=>n::ks.flat
def aW.flat:aW→List Nod
 | .nil=>[]
 | .cons t ts=>t.flat++ts.flat
end
def uc (n:Nod) (nk:Nat):Prop:=
 n.kids=(nk:Int)∧(((n.op=1∨n.op=7∨n.op=8)∧nk=0)∨(n.op=2∧nk=0)∨((n.op=3∨n.op=4)∧2≤nk)∨
  (n.op=5∧nk=1∧0≤n.mn∧n.mn≤30∧(n.mx=-1∨(n.mn≤n.mx∧n.mx≤30)))∨(n.op=6∧nk=1∧1≤n.cap∧n.cap≤4))
mutual
def Tr.ok:Tr→Prop
 | .mk n ks=>uc n ks.len∧ks.ok
def aW.ok:aW→Prop
 | .nil=>True
 | .cons t ts=>t.ok∧ts.ok
end
def a_ (n:Nod) (s k:Nat):Nat:=
 if n.op=2∨n.op=7∨n.op=8 then 1
 else if n.op=4 then s+2*(k-1)
 else if n.op=6 then s+2
 else if n.op=5 then(if n.mx=-1 then n.mn.toNat*s+s+2 else n.mn.toNat*s+(n.mx.toNat-n.mn.toNat)*(s+1))
 else s
mutual
def Tr.sz:Tr→Nat
 | .mk n ks=>a_ n ks.sz ks.len
def aW.sz:aW→Nat
 | .nil=>0
 | .cons t ts=>t.sz+ts.sz
end
def cg (op x y:Int) (rs:List Rg):az:=⟨op,x,y,.sl ((rs.map ai).map (iC 2)),rs⟩
def lj (s o:Nat) (lz:Bool):az:=if lz=true then cg 2 (o:Nat) ((s+1:Nat):Int) [] else cg 2 ((s+1:Nat):Int) (o:Nat) []
def kz (e:Nat):az:=cg 3 (e:Nat) 0 []
def dN (c:Nat→List az) (z:Nat):Nat→Nat→List az
 |0,_=>[]
 |k+1,b=>c b++dN c z k (b+z)
def dF (sp:Nat→az) (c:Nat→List az) (z:Nat):Nat→Nat→List az
 |0,_=>[]
 |k+1,b=>sp b::(c (b+1)++dF sp c z k (b+1+z))
def tW (z:Nat):Nat→Nat→List Nat
 |0,_=>[]
 |k+1,b=>b::tW z k (b+1+z)
def lx (n:Nod) (c:Nat→List az) (z b:Nat):List az:=
 if n.mx=-1 then dN c z n.mn.toNat b++(lj (b+n.mn.toNat*z) (b+n.mn.toNat*z+z+2) n.lz::(c (b+n.mn.toNat*z+1)++[kz (b+n.mn.toNat*z)]))
 else dN c z n.mn.toNat b++dF (fun s=>lj s (b+n.mn.toNat*z+(n.mx.toNat-n.mn.toNat)*(z+1)) n.lz) c z (n.mx.toNat-n.mn.toNat) (b+n.mn.toNat*z)
mutual
def aE:Tr→Nat→List az
 | .mk n ks,b=>
  if n.op=2 then[cg 1 0 0 n.rs]
  else if n.op=7 then[cg 5 0 0 []]
  else if n.op=8 then[cg 6 0 0 []]
  else if n.op=3 then et ks b
  else if n.op=4 then di (kz (b+a_ n ks.sz ks.len)) ks b
  else if n.op=5 then lx n (et ks) ks.sz b
  else if n.op=6 then cg 4 (2*n.cap) 0 []::(et ks (b+1)++[cg 4 (2*n.cap+1) 0 []])
  else[]
def et:aW→Nat→List az
 | .nil,_=>[]
 | .cons t ts,b=>aE t b++et ts (b+t.sz)
def di (jp:az):aW→Nat→List az
 | .nil,_=>[]
 | .cons t ts,b=>if ts.len=0 then aE t b else lj b (b+1+t.sz+1) false::(aE t (b+1)++jp::di jp ts (b+t.sz+2))
end
def o7:aW→Nat→List Nat
 | .nil,_=>[]
 | .cons t ts,b=>if ts.len=0 then[] else(b+1+t.sz)::o7 ts (b+t.sz+2)
theorem gK {c:Nat→List az} {z:Nat} (hc:∀b,(c b).length=z):∀k b,(dN c z k b).length=k*z
 |0,b=>by simp[dN]
 |k+1,b=>by rw[dN,List.length_append,hc,gK hc k,Nat.add_mul];omega
theorem nR {sp:Nat→az} {c:Nat→List az} {z:Nat} (hc:∀b,(c b).length=z):∀k b,(dF sp c z k b).length=k*(z+1)
 |0,b=>by simp[dF]
 |k+1,b=>by rw[dF,List.length_cons,List.length_append,hc,nR hc k,Nat.add_mul];omega
theorem Ax {n:Nod} {c:Nat→List az} {z b:Nat} (hc:∀b,(c b).length=z) (h:n.op=5):(lx n c z b).length=a_ n z 1:=by
 unfold lx a_;rw[if_neg (show¬(n.op=2∨n.op=7∨n.op=8) by omega),if_neg (show¬n.op=4 by omega),if_neg (show¬n.op=6 by omega),if_pos h]
 split
 ·rw[List.length_append,gK hc,List.length_cons,List.length_append,hc];simp only[List.length_cons,List.length_nil];omega
 ·rw[List.length_append,gK hc,nR hc]
theorem aW.xU {ks:aW} (h:ks.len=1):∃t,ks=.cons t .nil:=by
 cases ks with
 |nil=>simp[aW.len] at h
 |cons t ts=>cases ts with
  |nil=>exact⟨t,rfl⟩
  |cons u us=>simp[aW.len] at h
theorem aW.len_nil {ks:aW} (h:ks.len=0):ks=.nil:=by
 cases ks with
 |nil=>rfl
 |cons t ts=>simp[aW.len] at h
mutual
theorem bK:∀(t:Tr) (b:Nat),t.ok→(aE t b).length=t.sz
 | .mk n ks,b,h=>by
  simp only[Tr.ok] at h;obtain⟨h1,h2⟩:=h;have hc:=fun b=>kN ks b h2;have ha:=fun jp b=>o6 jp ks b h2;simp only[aE,Tr.sz];obtain⟨_,⟨h3,h4⟩|⟨h3,h4⟩|⟨h3,h4⟩|⟨h3,h4,h5⟩|⟨h3,h4,h5⟩⟩:=h1
  ·have hk:=aW.len_nil h4;subst hk
   by_cases q7:n.op=7
   ·simp[q7,a_]
   ·by_cases q8:n.op=8
    ·simp[q8,a_]
    ·have q1:n.op=1:=by omega
     simp[q1,a_,aW.sz]
  ·simp[h3,a_]
  ·rcases h3 with h3|h3
   ·simp[h3,a_,hc]
   ·simp[h3,a_,ha]
  ·have:=Ax (n:=n) (b:=b) hc h3;simp only[h3] at this⊢;simp only[show¬((5:Int)=2) by decide,show¬((5:Int)=7) by decide,show¬((5:Int)=8) by decide,show¬((5:Int)=3) by decide,show¬((5:Int)=4) by decide,if_false,if_true];rw[this,h4]
  ·simp[h3,a_,hc]
theorem kN:∀(ts:aW) (b:Nat),ts.ok→(et ts b).length=ts.sz
 | .nil,b,_=>by simp[et,aW.sz]
 | .cons t ts,b,h=>by
  simp only[aW.ok] at h;simp only[et,aW.sz,List.length_append];rw[bK t b h.1,kN ts _ h.2]
theorem o6 (jp:az):∀(ts:aW) (b:Nat),ts.ok→(di jp ts b).length=ts.sz+2*(ts.len-1)
 | .nil,b,_=>by simp[di,aW.sz,aW.len]
 | .cons t ts,b,h=>by
  simp only[aW.ok] at h;have h1:=o6 jp ts (b+t.sz+2) h.2;simp only[di,aW.sz,aW.len]
  by_cases q:ts.len=0
  ·rw[if_pos q,bK t b h.1,q];have:=aW.len_nil q;subst this;simp[aW.sz]
  ·rw[if_neg q,List.length_cons,List.length_append,List.length_cons,bK t _ h.1,h1];omega
end
def fF (f:Nat→az) (c:List az) (l:List Nat):List az:=l.foldl (fun c j=>c.set j (f j)) c
theorem m_ {α:Type} (pre post:List α) (x y:α):(pre++x::post).set pre.length y=pre++y::post:=by
 rw[List.set_append_right _ _ (Nat.le_refl _),Nat.sub_self];rfl
theorem nh {α:Type} (pre post:List α) (x:α):(pre++x::post)[pre.length]?=some x:=by
 rw[List.getElem?_append_right (Nat.le_refl _),Nat.sub_self];rfl
theorem lD {sp:Nat→az} {c:Nat→List az} {z:Nat} (hc:∀b,(c b).length=z) {i0:az}:∀(k b:Nat) (pre post:List az),pre.length=b→fF sp (pre++dF (fun _=>i0) c z k b++post) (tW z k b)=pre++dF sp c z k b++post∧∀j∈tW z k b,(pre++dF (fun _=>i0) c z k b++post)[j]?=some i0
 |0,b,pre,post,_=>⟨rfl,fun j hj=>by cases hj⟩
 |k+1,b,pre,post,h=>by
  have ih:=lD (sp:=sp) hc (i0:=i0) k (b+1+z) (pre++i0::c (b+1)) post (by rw[List.length_append,List.length_cons,hc];omega);have xW:=lD (sp:=sp) hc (i0:=i0) k (b+1+z) (pre++sp b::c (b+1)) post (by rw[List.length_append,List.length_cons,hc];omega);simp only[dF,tW];have e:pre++i0::(c (b+1)++dF (fun _=>i0) c z k (b+1+z))++post=pre++i0::(c (b+1)++dF (fun _=>i0) c z k (b+1+z)++post):=by simp
  have e2:pre++i0::c (b+1)++dF (fun _=>i0) c z k (b+1+z)++post=pre++i0::(c (b+1)++dF (fun _=>i0) c z k (b+1+z)++post):=by simp
  refine⟨?_,fun j hj=>?_⟩
  ·unfold fF at xW⊢;rw[List.foldl_cons,e]
   have hs:(pre++i0::(c (b+1)++dF (fun _=>i0) c z k (b+1+z)++post)).set b (sp b)=pre++sp b::c (b+1)++dF (fun _=>i0) c z k (b+1+z)++post:=by
    rw[←h,m_];simp
   rw[hs,xW.1];simp
  ·rw[e]
   rcases List.mem_cons.1 hj with rfl|hj
   ·rw[←h];exact nh _ _ _
   ·rw[←e2];exact ih.2 j hj
theorem l5 {jp i0:az}:∀(ts:aW) (b:Nat) (pre post:List az),ts.ok→pre.length=b→fF (fun _=>jp) (pre++di i0 ts b++post) (o7 ts b)=pre++di jp ts b++post∧∀j∈o7 ts b,(pre++di i0 ts b++post)[j]?=some i0
 | .nil,b,pre,post,_,_=>⟨by simp[di,o7,fF],fun j hj=>by simp[o7] at hj⟩
 | .cons t ts,b,pre,post,hok,h=>by
  simp only[aW.ok] at hok
  by_cases q:ts.len=0
  ·simp only[di,o7,if_pos q];exact⟨rfl,fun j hj=>by cases hj⟩
  ·simp only[di,o7,if_neg q];generalize lj b (b+1+t.sz+1) false=sp;have hcl:=bK t (b+1) hok.1;have ih:=l5 (jp:=jp) (i0:=i0) ts (b+t.sz+2) (pre++sp::(aE t (b+1)++[i0])) post hok.2 (by simp only[List.length_append,List.length_cons,List.length_nil,hcl];omega);have xW:=l5 (jp:=jp) (i0:=i0) ts (b+t.sz+2) (pre++sp::(aE t (b+1)++[jp])) post hok.2 (by simp only[List.length_append,List.length_cons,List.length_nil,hcl];omega);generalize di i0 ts (b+t.sz+2)=A at*;have e:pre++sp::(aE t (b+1)++i0::A)++post=(pre++sp::aE t (b+1))++i0::(A++post):=by simp
   have hl:(pre++sp::aE t (b+1)).length=b+1+t.sz:=by simp only[List.length_append,List.length_cons,hcl];omega
   refine⟨?_,fun j hj=>?_⟩
   ·unfold fF at xW⊢;rw[List.foldl_cons,e,←hl,m_];have:=xW.1;simp only[List.append_assoc,List.cons_append,List.nil_append] at this⊢;exact this
   ·rw[e]
    rcases List.mem_cons.1 hj with rfl|hj
    ·rw[←hl];exact nh _ _ _
    ·have:=ih.2 j hj;simp only[List.append_assoc,List.cons_append,List.nil_append] at this⊢;exact this
def ec {α:Type} (L:List α) (at_:Nat) (M:List α):Prop:=∃post,L.drop at_=M++post
theorem ec.head {α:Type} {L M:List α} {a:α} {at_:Nat} (h:ec L at_ (a::M)):L[at_]?=some a:=by
 obtain⟨post,h⟩:=h;have:=congrArg (·[0]?) h
 simpa using this
theorem ec.tail {α:Type} {L M:List α} {a:α} {at_:Nat} (h:ec L at_ (a::M)):ec L (at_+1) M:=by
 obtain⟨post,h⟩:=h;refine⟨post,?_⟩;rw[←List.drop_drop,h];rfl
theorem ec.left {α:Type} {L M M':List α} {at_:Nat} (h:ec L at_ (M++M')):ec L at_ M:=by
 obtain⟨post,h⟩:=h;exact⟨M'++post,by rw[h,List.append_assoc]⟩
theorem ec.right {α:Type} {L M M':List α} {at_:Nat} (h:ec L at_ (M++M')):ec L (at_+M.length) M':=by
 obtain⟨post,h⟩:=h;refine⟨post,?_⟩;rw[←List.drop_drop,h,List.append_assoc,List.drop_left]
theorem ec.le {α:Type} {L M:List α} {at_:Nat} (h:ec L at_ M) (hM:M≠[]):at_+M.length≤L.length:=by
 obtain⟨post,h⟩:=h;have:=congrArg List.length h;simp only[List.length_drop,List.length_append] at this
 have:0<M.length:=by cases M with|nil=>exact absurd rfl hM|cons _ _=>simp
 omega
theorem ec.all {α:Type} (L:List α):ec L 0 L:=⟨[],by simp⟩
mutual
def Tr.zs:Tr→List Int
 | .mk n ks=>((min (a_ n ks.sz ks.len) 401:Nat):Int)::ks.zs
def aW.zs:aW→List Int
 | .nil=>[]
 | .cons t ts=>t.zs++ts.zs
end
mutual
def Tr.es:Tr→Nat→List Int
 | .mk n ks,at_=>((at_+1+ks.flat.length:Nat):Int)::ks.es (at_+1)
def aW.es:aW→Nat→List Int
 | .nil,_=>[]
 | .cons t ts,at_=>t.es at_++ts.es (at_+t.flat.length)
end
mutual
theorem Tr.gp:∀t:Tr,t.zs.length=t.flat.length
 | .mk n ks=>by simp[Tr.zs,Tr.flat,aW.gp ks]
theorem aW.gp:∀ts:aW,ts.zs.length=ts.flat.length
 | .nil=>rfl
 | .cons t ts=>by simp[aW.zs,aW.flat,Tr.gp t,aW.gp ts]
end
mutual
theorem Tr.gA:∀(t:Tr) (a:Nat),(t.es a).length=t.flat.length
 | .mk n ks,a=>by simp[Tr.es,Tr.flat,aW.gA ks]
theorem aW.gA:∀(ts:aW) (a:Nat),(ts.es a).length=ts.flat.length
 | .nil,_=>rfl
 | .cons t ts,a=>by simp[aW.es,aW.flat,Tr.gA t,aW.gA ts]
end
theorem Tr.fN (t:Tr):0<t.flat.length:=by cases t;simp[Tr.flat]
theorem aW.iZ:∀ts:aW,ts.len≤ts.flat.length
 | .nil=>Nat.le_refl _
 | .cons t ts=>by
  have h1:=aW.iZ ts;have h2:=t.fN;simp only[aW.len,aW.flat,List.length_append];omega
end Go.Proofs.YtnleclohocdkaaaGreat
namespace Go.V
variable{N:Nat} {S st:St} {H:List aN}
theorem bQ.at_ {α β:Type} {R:α→β→Prop}:∀{l:List α} {m:List β} {i:Nat} {b:β},bQ R l m→m[i]?=some b→∃a,l[i]?=some a∧R a b
 |_,_,_,_,.nil,h=>by simp at h
 |_,_,0,_,.cons a t,h=>by simp only[List.getElem?_cons_zero,Option.some.injEq] at h;subst h;exact⟨_,rfl,a⟩
 |_,_,i+1,_,.cons a t,h=>by simp only[List.getElem?_cons_succ] at h⊢;exact t.at_ h
theorem bQ.set {α β:Type} {R:α→β→Prop} {a:α} {b:β} (r:R a b):∀{l:List α} {m:List β} (i:Nat),bQ R l m→bQ R (l.set i a) (m.set i b)
 |_,_,_,.nil=>.nil
 |_,_,0,.cons _ t=>.cons r t
 |_,_,i+1,.cons h t=>.cons h (t.set r i)
theorem bQ.setMany {R:D→D→Prop}:∀{xs ys:List D} {c d:List D} (o:Nat),bQ R xs ys→bQ R c d→bQ R (setMany c o xs) (setMany d o ys)
 |_,_,_,_,_,.nil,h=>h
 |_,_,_,_,o,.cons r t,h=>by simp only[Go.V.setMany];exact t.setMany (o+1) (h.set r o)
theorem bQ.same {R:D→D→Prop}:∀{l:List D},(∀d∈l,R d d)→bQ R l l
 |[],_=>.nil
 |d::l,h=>.cons (h d (List.mem_cons_self ..)) (bQ.same fun x hx=>h x (List.mem_cons_of_mem _ hx))
theorem Has.Jk {j:Nat} {x:D} {s:Nat} {ks:Nat→Prop} {vs:List (List D)} (hH:Has N S st H) (hj:H[j]?=some (.deep ks x s vs)):∃es,Rows st s x es∧es.length=vs.length:=by
 obtain⟨⟨es,h1,h2⟩,_⟩:=(hH.ok j _ hj).1;exact⟨es,h1.rows,h2.len⟩
theorem Has.MR {j k au off len s:Nat} {ks:Nat→Prop} {vs:List (List D)} {i o:Nat} {v cs:List D} (h:Has N S st H) (hj:H[j]?=some (.deep ks (.win k au off len s) s vs)) (hi:vs[i]?=some v) (hl:o+cs.length≤s) (hp:∀d∈cs,bD d=true) (hw:S.flr≤N∨refs cs=0):
  ∃ae,st.wr k au (off+i*s+o) cs=some ae∧Has N S ae (H.set j (.deep ks (.win k au off len s) s (vs.set i (setMany v o cs)))):=by
 obtain⟨⟨es,jZ,zp⟩,he3⟩:=(h.ok j _ hj).1;have hK:=(h.ok j _ hj).2;obtain⟨e,Q4,hev⟩:=zp.at_ hi
 have vw:Has N S st [.lst (.win k au off len s) s es]:=by
  refine⟨h.ex,h.hN,h.er,fun i e hi=>?_,fun i i' a b hii ha hb k pg fX=>?_⟩
  ·cases i with
   |zero=>simp only[List.getElem?_cons_zero,Option.some.injEq] at hi;subst hi;exact⟨jZ,fun k hk=>hK k (.inl hk)⟩
   |succ i=>simp at hi
  ·cases i with
   |zero=>cases i' with
    |zero=>exact hii rfl
    |succ i'=>simp at hb
   |succ i=>simp at ha
 obtain⟨ae,q1,q2⟩:=vw.xB (j:=0) at0 Q4 hl hw;refine⟨ae,q1,?_⟩;have hown:=q2.own (j:=0) at0
 have LO:(∀n,n≠k→ae.bs[n]?=st.bs[n]?)∧st.bs.length=ae.bs.length∧ae.flr=st.flr∧ae.ro=st.ro:=by
  unfold St.wr at q1
  split at q1
  ·split at q1
   ·cases q1;exact⟨fun n hn=>by simp only;rw[List.getElem?_set_ne (fun e=>hn e.symm)],by simp,rfl,rfl⟩
   ·cases q1
  ·cases q1
 obtain⟨c1,c2,c3,c4⟩:=LO;have hkk:=hK k (.inl (by simp only[D.ref]));have hne:∀n,ks n→n≠k:=fun n hn e=>he3 k (by simp only[D.ref]) (e▸hn);have uH:∀n,ks n→ae.bs[n]?=st.bs[n]?:=fun n hn=>c1 n (hne n hn);refine h.yC hj (fun n hn hnot=>c1 n fun e=>hnot (.inl (by simp only[D.ref];omega))) (Nat.le_of_eq c2) c3 c4 ⟨⟨_,hown,?_⟩,he3⟩ (fun n hn=>.inl hn) fun n hn=>?_
 ·refine bQ.set ?_ i (zp.mono fun a b=>bQ.mono fun c d=>dW.move uH);exact(bQ.same fun d hd=>.plain d (hp d hd)).setMany o (hev.mono fun c d=>dW.move uH)
 ·rw[←c2];exact(hK n hn).2
variable{P:Pv} {ops:Array Oper} {rest:List Oper} {fr ax:Fr} {Q:Fr→St→Prop} {ty:TypeId} {pp:String} {a:Array Edge} {g:Option (Nat×Bool)} {dst:Nat}
theorem EvO.zD {t e:TypeId} {xo:Operand} {x:D} {s j:Nat} {ks:Nat→Prop} {vs:List (List D)} (hH:Has N S st H) (hg:av ops fr ⟨some dst,.call ⟨.builtin .len,#[xo],#[t]⟩,ty,pp,a,g⟩=some true) (hx:fr.ev xo=x) (hj:H[j]?=some (.deep ks x s vs)) (ht:P.bG t=some (.slice e)) (hp:fr.put dst (.int .i64 (vs.length:Nat))=ax)
  (h:EvO P ops rest ax st Q):EvO P ops (⟨some dst,.call ⟨.builtin .len,#[xo],#[t]⟩,ty,pp,a,g⟩::rest) fr st Q:=by
 obtain⟨es,h1,h2⟩:=hH.Jk hj;exact EvO.rlen hg hx h1 ht (by rw[h2];exact hp) h
theorem EvO.B6 {t e:TypeId} {xo io:Operand} {x:D} {s i j:Nat} {kk:IntKind} {ks:Nat→Prop} {vs:List (List D)} {ax:D→Fr} (hH:Has N S st H) (hg:av ops fr ⟨some dst,.indexAddr t xo io,ty,pp,a,g⟩=some true) (hx:fr.ev xo=x) (hi:fr.ev io=.int kk (i:Nat)) (hj:H[j]?=some (.deep ks x s vs)) (ht:P.bG t=some (.slice e)) (hs:bz P e=some s) (hr:i<vs.length) (hp:∀p,fr.put dst p=ax p)
  (h:∀p,mV x s i 0 p→EvO P ops rest (ax p) st Q):EvO P ops (⟨some dst,.indexAddr t xo io,ty,pp,a,g⟩::rest) fr st Q:=by
 obtain⟨⟨es,jZ,zp⟩,he3⟩:=(hH.ok j _ hj).1;have hlen:=zp.len
 cases jZ with
 |nul=>simp at hlen;omega
 |win k au off es c hm hl hc he=>
  refine EvO.go hg rfl (d:=.ptr k au (off+i*s)) (st1:=st) ?_ (hp _) (h _ ⟨k,au,off,_,rfl,rfl⟩);simp only[cF,hx,hi,bn,ht,hs,Option.bind_some,St.mem_of hm,Option.isSome_some];rw[if_pos ⟨trivial,by omega,by omega,trivial⟩];rfl
theorem EvO.oT {t:TypeId} {ao vo:Operand} {x y v:D} {s i o j:Nat} {ks:Nat→Prop} {vs:List (List D)} {r cs:List D} (hH:Has N S st H) (hg:av ops fr ⟨none,.store t ao vo,ty,pp,a,g⟩=some true) (ha:fr.ev ao=y) (hv:fr.ev vo=v) (hR:mV x s i o y) (gy:v.cells?=some cs) (hs:bz P t=some cs.length) (hj:H[j]?=some (.deep ks x s vs)) (hr:vs[i]?=some r) (hl:o+cs.length≤s) (hq:∀d∈cs,bD d=true) (hw:S.flr≤N∨refs cs=0)
  (h:∀ae,Has N S ae (H.set j (.deep ks x s (vs.set i (setMany r o cs))))→EvO P ops rest fr ae Q):EvO P ops (⟨none,.store t ao vo,ty,pp,a,g⟩::rest) fr st Q:=by
 obtain⟨k,au,off,len,rfl,rfl⟩:=hR;obtain⟨ae,h1,h2⟩:=hH.MR hj hr hl hq hw;refine EvO.N hg rfl (d:=.tup []) (st1:=ae) ?_ (h _ h2);simp only[cF,ha,hv,iM,gy,hs,if_pos trivial,h1];rfl
theorem EvC.Gb {dy:Dy} {i:Nat} {l:List Oper} {d n loc tmp st} {Q:Out→Fr→St→Prop} (ws:List Nat) (F:(Nat→D)→Prop)
  (h1:EvO P l.toArray l ⟨n,loc,[]⟩ st fun ax ae=>∃f tmp,ax=⟨n,setW loc ws f,tmp⟩∧ae=st∧F f) (h2:∀f tmp,F f→Q .next ⟨n,setW loc ws f,tmp⟩ st) (h0:eL i dy=[]:=by rfl):EvC P dy (.region i l.toArray d) ⟨n,loc,tmp⟩ st Q:=by
 refine EvC.reg ?_ h0;unfold EvO at h1⊢;obtain⟨ax,ae,h3,f,EJ,rfl,rfl,h4⟩:=h1;exact⟨_,_,h3,h2 _ _ h4⟩
theorem i7 {n:Nat} {L loc:List D} {rJ:List (Nat×D)} {ws:List Nat} {F:(Nat→D)→Prop} {st:St} (h:L=setW loc ws (fun k=>nth .junk L k)) (h2:F (fun k=>nth .junk L k)):∃(f:Nat→D) (tmp:List (Nat×D)),(⟨n,L,rJ⟩:Fr)=⟨n,setW loc ws f,tmp⟩∧st=st∧F f:=⟨_,rJ,by rw[←h],rfl,h2⟩
theorem EvO.Hb {t1 t2:TypeId} {xo yo:Operand} {x y z:Int} (hg:av ops fr ⟨some dst,.call ⟨.builtin .min,#[xo,yo],#[t1,t2]⟩,ty,pp,a,g⟩=some true) (hx:fr.ev xo=.int .i64 x) (hy:fr.ev yo=.int .i64 y) (hz:min x y=z) (hp:fr.put dst (.int .i64 z)=ax) (h:EvO P ops rest ax st Q):EvO P ops (⟨some dst,.call ⟨.builtin .min,#[xo,yo],#[t1,t2]⟩,ty,pp,a,g⟩::rest) fr st Q:=
 EvO.Dg (t1:=t1) (t2:=t2) hg hx hy (by rw[hz];exact hp) h
theorem Has.ux {N:Nat} {S s0 S2 st2:St} {H:List aN} {x:D} {s:Nat} {es MO:List (List D)} (h:Has N S s0 (.lst x s es::H)) (hS:S2.bs=s0.bs) (h2:Has N S2 st2 (.lst x s MO::H)):Has N S ⟨st2.bs.take s0.bs.length,s0.flr,s0.ro⟩ (.lst x s MO::H):=by
 refine h.sG hS h2 fun i e hi=>?_
 cases i with
 |zero=>simp only[List.getElem?_cons_zero,Option.some.injEq] at hi;subst hi;exact⟨_,rfl,fun k hk=>hk⟩
 |succ i=>exact⟨e,hi,fun k hk=>hk⟩
theorem Has.uy {N:Nat} {S s0 S2 st2:St} {H:List aN} {k:Nat} {b b':fY} {ks:Nat→Prop} {x:D} {s:Nat} {vs GQ:List (List D)} (h:Has N S s0 (.box k b::.deep ks x s vs::H)) (hS:S2.bs=s0.bs) (h2:Has N S2 st2 (.box k b'::.deep ks x s GQ::H)):Has N S ⟨st2.bs.take s0.bs.length,s0.flr,s0.ro⟩ (.box k b'::.deep ks x s GQ::H):=by
 refine h.sG hS h2 fun i e hi=>?_
 match i with
 |0=>simp only[List.getElem?_cons_zero,Option.some.injEq] at hi;subst hi;exact⟨_,rfl,fun k hk=>hk⟩
 |1=>simp only[List.getElem?_cons_succ,List.getElem?_cons_zero,Option.some.injEq] at hi;subst hi;exact⟨_,rfl,fun k hk=>hk⟩
 |i+2=>exact⟨e,hi,fun k hk=>hk⟩
theorem Has.C3 {N:Nat} {S st:St} {H:List aN} {a b c d e:aN} (h:Has N S st (a::b::c::d::e::H)):Has N S st (b::c::d::e::a::H):=by
 refine h.sub (fun i=>if i=4 then 0 else if i<4 then i+1 else i) (fun i j hij=>?_) (fun i x hi=>?_)
 ·(try simp only at hij)
  split at hij<;>split at hij<;>(try split at hij)<;>(try split at hij)<;>omega
 ·match i,hi with
  |0,hi=>exact hi
  |1,hi=>exact hi
  |2,hi=>exact hi
  |3,hi=>exact hi
  |4,hi=>exact hi
  |i+5,hi=>
   have h1:¬(i+5=4):=by omega
   have h2:¬(i+5<4):=by omega
   simp only[if_neg h1,if_neg h2];exact hi
theorem Has.jr {fr:Fr} {a k au off j u u2:Nat} {t:TypeId} {ar:Bool} {c:List D} {d e e2:D} (hH:Has N S st H) (ha:fr.get a=.ptr k au off) (hj:H[j]?=some (.box k (.mem au ar c))) (hd:cz P t (c.drop off)=some d) (he:fr.get u=e) (zp:fr.get u2=e2):ib P fr st [.cell a t,.tmp u,.tmp u2]=some [d,e,e2]:=by
 simp only[ib,eC,ha,St.mem_of (hH.at hj),Option.bind_some,hd,Option.map_some,he,zp]
theorem EvC.iV {dy:Dy} {c1 c2:Code} {fr:Fr} {st:St} {Q:Out→Fr→St→Prop} (M:Fr→St→Prop) (h1:EvC P dy c1 fr st (SeqQ P dy c2 (Ct M Q))) (h2:∀ax ae,M ax ae→Q .next ax ae):EvC P dy c1 fr st (SeqQ P dy c2 Q):=
 h1.mono fun o ax ae h=>by
  cases o with
  |next=>exact EvC.merge M h h2
  |exit i=>exact h
  |ret=>exact h
end Go.V
namespace Go.Proofs.YtnleclohocdkaaaGreat
open Go.V Go
def wv (fr:Go.V.Fr) (k:Nat):Go.V.D:=Go.V.nth .junk fr.loc k
theorem zy {st:St} {L n:Nat} {kn:Bool} {k au off len s:Nat}:aY st L kn n (.win k au off len s)=aY st L false n (.win k au off len s):=by
 cases n<;>rfl
theorem zw (l:List Rg):(l.map ai).map (·.map mQ)=l.map ai:=by
 rw[List.map_map];rfl
theorem vB (l:List Rg):∀e∈l.map ai,∀d∈e,mb d=true:=by
 intro e he d hd;obtain⟨x,_,rfl⟩:=List.mem_map.1 he;simp only[ai,List.mem_cons,List.not_mem_nil,or_false] at hd
 rcases hd with rfl|rfl<;>rfl
theorem mB {N L j:Nat} {S st:St} {H:List aN} {x:D} {l:List Rg} (hH:Has N S st H) (hj:H[j]?=some (.lst x 2 (l.map ai))) (hx:∀k,x.ref=k+1→L≤k) {n:Nat} (hn:3≤n):aY st L false n x=some (aX l):=by
 rw[hH.yg hj hx (vB l) hn,zw,fG]
def Jp (gs:List (Nat×Nat)) (s s':dJ) (d1:D) (b:Bool):Prop:=
 Cs gs s s' d1 b∨(s'=s∧d1=.nul∧b=false)
theorem xH {N k:Nat} {S s0:St} {H:List aN} {gs:List (Nat×Nat)} {ba:D} {bo:List Int} {s:dJ} (hok:jj gs bo) (he:s.e=0) (hi:s.i<gs.length) (hH:Has N S s0 (.box k (.mem 0 false (aF gs ba s))::.lst ba 1 (bo.map aj)::H)):
  ∃d ae,Ev pv 181 [.ptr k 0 0] s0 d ae∧∃(d1:D) (b:Bool) (s':dJ),d=.tup [d1,.bool b]∧Jp gs s s' d1 b∧Has N S ae (.box k (.mem 0 false (aF gs ba s'))::.lst ba 1 (bo.map aj)::H):=by
 have sO:=hok.gl;have hpl:=hok.pl;refine Ev.iB rfl IJ rfl rfl rfl ?_;refine zE ?_;have bM:=hH;have hH:=hH.bO;have bL:(enterSt .rw s0).bs=s0.bs:=rfl;generalize enterSt .rw s0=S2 at*;have DQ:Arg N S2 2 (db gs) (gs.map aP):=Arg.pure (fun st=>cN st gs)
 obtain⟨g,hg⟩:∃g,gs[s.i]?=some g:=⟨gs[s.i]'hi,List.getElem?_eq_getElem _⟩
 have hr1:(gs.map aP)[s.i]?=some (aP g):=by rw[List.getElem?_map,hg];rfl
 refine zQ 13 ?_;obtain⟨_,st,hev,rfl,hH⟩:=xc (s:=s) s.i hi hH;refine qv hev ?_;refine zQ 1 ?_;refine qc (fun hb=>?_) (fun hb=>?_)<;>try simp only[cs] at hb
 ·refine zQ 7 ?_;obtain⟨_,st,hev,rfl,hH⟩:=ck (s:=s) s.i 4 (by omega) hH;refine qv hev ?_;refine zQ 6 ?_;obtain⟨h1,h2,h3,h4⟩:=cy (bo:=bo) (s:=s) (i:=s.i) (e:=4) he (by decide);refine EvC.ret ⟨rx,_,_,_,rfl,af (rfl),?_⟩;exact⟨_,_,_,rfl,.inl ⟨h3,h4,by rw[h2];exact Nat.le_refl _,by rw[h2];omega,.inl rfl,.inl h1⟩,bM.ak bL hH⟩
 ·refine zQ 11 ?_;refine qr fun Gu zj=>?_;refine qf (fo:=0) fun O2 La=>?_;refine zQ 13 ?_;refine zI (fun q1=>?_) fun q1=>?_
  ·refine zQ 3 ?_;obtain⟨_,st,hev,d1,b,s',rfl,hP,hH⟩:=xz (s:=s) hok he hi hH;refine qv hev ?_;refine zQ 5 ?_
   rcases hP.2.2.2.2.1 with rfl|⟨a,rfl,_⟩
   ·refine EvC.ret ⟨rx,_,_,_,rfl,af (rfl),?_⟩;exact⟨_,_,_,rfl,.inl hP,bM.ak bL hH⟩
   ·refine EvC.ret ⟨rx,_,_,_,rfl,af (rfl),?_⟩;exact⟨_,_,_,rfl,.inl hP,bM.ak bL hH⟩
  ·refine zQ 6 ?_
   by_cases G3:((g.1:Nat):Int)=91
   ·refine qD rfl (by simp[G3]) ?_;refine zQ 1 ?_;refine qD rfl (by simp[G3]) ?_;refine zQ 5 ?_;refine EvC.ret ⟨rx,_,_,_,rfl,af (rfl),?_⟩;exact⟨_,_,_,rfl,.inr ⟨rfl,rfl,rfl⟩,bM.ak bL hH⟩
   refine qE rfl (by simp[G3]) ?_;refine zQ 5 ?_
   by_cases JW:((g.1:Nat):Int)=93
   ·refine qD rfl (by simp[JW]) ?_;refine zQ 1 ?_;refine qD rfl (by simp[JW]) ?_;refine zQ 5 ?_;refine EvC.ret ⟨rx,_,_,_,rfl,af (rfl),?_⟩;exact⟨_,_,_,rfl,.inr ⟨rfl,rfl,rfl⟩,bM.ak bL hH⟩
   refine qE rfl (by simp[JW]) ?_;refine zQ 4 ?_
   by_cases Nj:((g.1:Nat):Int)=45
   ·refine qD rfl (by simp[Nj]) ?_;refine zQ 5 ?_;refine EvC.ret ⟨rx,_,_,_,rfl,af (rfl),?_⟩;exact⟨_,_,_,rfl,.inr ⟨rfl,rfl,rfl⟩,bM.ak bL hH⟩
   refine qE rfl (by simp[Nj]) ?_;refine zQ 9 ?_;refine qT hH at0 fun st hH=>?_;dsimp only[u2,u1,u3,u4,setMany,u5,u6,D.cells,Nat.reduceAdd,aF,aP,aj,ai] at hH;refine zQ 5 ?_;refine EvO.eI (qs:=[(0,_),(1,_)]) rfl rfl rfl rfl ⟨rfl,(ev rfl),(by rfl),rfl,(ev rfl),(by rfl),trivial⟩ (by intro q hq;simp only[List.mem_cons,List.not_mem_nil,or_false] at hq;rcases hq with rfl|rfl<;>exact⟨rfl,by exact Nat.le_of_ble_eq_true rfl⟩) (by show List.foldl _ [_,_] _=_;dsimp only[List.foldl_cons,List.foldl_nil,u2,u1]<;>rfl) (put_T rfl _) ?_;refine qh (s:=2) (vs:=[_]) hH fun k39 st QC hH=>?_;refine zQ 3 ?_;have hH:Has N S2 st (.lst (.win k39 0 0 1 2) 2 (([((g.1:Nat),(g.1:Nat))]:List Rg).map ai)::.box k (.mem 0 false (aF gs ba {s with i:=s.i+1}))::.lst ba 1 (bo.map aj)::H):=hH;have hfz:=mB hH at0 (L:=s0.bs.length) (n:=15) (fun k hk=>by simp only[D.ref] at hk;rw[←bL];omega) (by decide)
   have Lx:aY st s0.bs.length true 16 (po [.win k39 0 0 1 2,.bool true])=some (.tup [aX [(((g.1:Nat):Int),((g.1:Nat):Int))],.bool true]):=by
    show(fV (aY st s0.bs.length true 15) [.win k39 0 0 1 2,.bool true]).map D.tup=_;simp only[fV,zy,hfz];rfl
   refine EvC.ret ⟨rx,_,_,_,rfl,af Lx,⟨_,_,{s with i:=s.i+1},rfl,.inl ⟨rfl,rfl,?_,?_,.inr ⟨_,rfl,by simp⟩,.inr ⟨he,?_,_,rfl,?_,?_⟩⟩,bM.ak bL (hH.drop 1)⟩⟩
   ·show s.i≤s.i+1;omega
   ·show s.i+1≤_;omega
   ·show s.i<s.i+1;omega
   ·simp
   ·simp
def Js (gs:List (Nat×Nat)) (s s':dJ) (d:D):Prop:=
 s'.o=s.o∧s'.g=s.g∧s.i≤s'.i∧s'.i≤gs.length∧∃a:List Rg,d=aX a∧a.length≤8∧(s'.e≠0∨s'.e=0∧s.i<s'.i)
theorem eZ {gs:List (Nat×Nat)} {s:dJ} {r:Int}:(ch gs s r).o=s.o∧(ch gs s r).g=s.g∧(ch gs s r).e=s.e∧s.i≤(ch gs s r).i∧(s.i≤gs.length→(ch gs s r).i≤gs.length):=by
 unfold ch
 split
 ·rename_i h;have:=ot h;exact⟨rfl,rfl,rfl,by show s.i≤s.i+1;omega,fun _=>by show s.i+1≤_;omega⟩
 ·exact⟨rfl,rfl,rfl,Nat.le_refl _,fun h=>h⟩
theorem Dn {N k:Nat} {S s0:St} {H:List aN} {gs:List (Nat×Nat)} {ba:D} {bo:List Int} {s:dJ} (hok:jj gs bo) (he:s.e=0) (hi:s.i<gs.length) (hH:Has N S s0 (.box k (.mem 0 false (aF gs ba s))::.lst ba 1 (bo.map aj)::H)):
  ∃d ae,Ev pv 165 [.ptr k 0 0] s0 d ae∧∃(s':dJ),Js gs s s' d∧Has N S ae (.box k (.mem 0 false (aF gs ba s'))::.lst ba 1 (bo.map aj)::H):=by
 have sO:=hok.gl;have hpl:=hok.pl;refine Ev.iB rfl IM rfl rfl rfl ?_;refine zE ?_;have bM:=hH;have hH:=hH.bO;have bL:(enterSt .rw s0).bs=s0.bs:=rfl;generalize enterSt .rw s0=S2 at*;have DQ:Arg N S2 2 (db gs) (gs.map aP):=Arg.pure (fun st=>cN st gs);refine zQ 15 ?_;obtain⟨_,st,hev,d1,b,s1,rfl,hP,hH⟩:=xH (s:=s) hok he hi hH;refine qv hev ?_;refine zQ 15 ?_
 rcases hP with hP|⟨e1,rfl,rfl⟩
 ·obtain⟨p1,p2,p3,p4,p5,p6⟩:=hP
  rcases p6 with p6|⟨p6,p7,a,rfl,p8,p9⟩
  ·refine qD rfl (by simp[p6]) ?_;refine zQ 4 ?_;refine EvC.ret ⟨rx,_,_,_,rfl,af (rfl),?_⟩;exact⟨s1,⟨p1,p2,p3,p4,[],rfl,by simp,.inl p6⟩,bM.ak bL hH⟩
  ·obtain⟨q,a',rfl⟩:∃q a',a=q::a':=List.exists_cons_of_ne_nil p9;refine qE rfl (by simp[p6]) ?_;refine zQ 5 ?_;refine EvO.go (d:=.bool false) (st1:=_) rfl rfl rfl (put_T rfl _) ?_;refine zQ 3 ?_;obtain⟨k1,k2,k3,k4,k5⟩:=eZ (gs:=gs) (s:=s1) (r:=45);have k5:=k5 p4;refine zQ 4 ?_;obtain⟨_,st,hev,rfl,hH⟩:=cP (s:=s1) (by omega) 45 hH;refine qv hev ?_;refine zQ 2 ?_;generalize ch gs s1 45=s2 at*
   cases hb:gG gs s1.i 45 with
   |false=>
    refine zQ 6 ?_;refine EvC.ret ⟨rx,_,_,_,rfl,af (rfl),?_⟩;exact⟨s2,⟨k1.trans p1,k2.trans p2,by omega,k5,q::a',rfl,p8,.inr ⟨k3.trans p6,by omega⟩⟩,bM.ak bL hH⟩
   |true=>
    refine zQ 21 ?_;refine qn ?_;simp only[List.length_map];refine zQ 2 ?_;refine EvC.merge (fun fr st=>∃(d2:D) (two:Bool) (s3:dJ) (tmp:List (Nat×D)),fr=⟨8,[.ptr k 0 0,wv fr 1,wv fr 2,.int .i64 (s.i:Nat),aX (q::a'),.bool b,d2,.bool two],tmp⟩∧Has N S2 st (.box k (.mem 0 false (aF gs ba s3))::.lst ba 1 (bo.map aj)::H)∧(s3.o=s.o)∧(s3.g=s.g)∧(s2.i≤s3.i)∧(s3.i≤gs.length)∧(s3.e≠0∨s3.e=0∧(two=false∨∃a2:List Rg,d2=aX a2∧a2≠[]))) ?_ ?_
    ·refine zP (fun hlt=>?_) fun hlt=>?_
     ·refine zQ 2 ?_;obtain⟨_,st,hev,d2,two,s3,rfl,Rk,hH⟩:=xH (s:=s2) hok (k3.trans p6) (by omega) hH;refine qv hev ?_;refine zQ 6 ?_
      rcases Rk with⟨r1,r2,r3,r4,r5,r6⟩|⟨e1,rfl,rfl⟩
      ·refine⟨d2,two,s3,_,rfl,hH,r1.trans (k1.trans p1),r2.trans (k2.trans p2),r3,r4,?_⟩
       rcases r6 with r6|⟨r6,r7,a2,rfl,r8,r9⟩
       ·exact .inl r6
       ·refine .inr ⟨r6,?_⟩
        cases two with
        |false=>exact .inl rfl
        |true=>exact .inr ⟨a2,rfl,r9⟩
      ·exact⟨.nul,false,s3,_,rfl,hH,by rw[e1];exact k1.trans p1,by rw[e1];exact k2.trans p2,by rw[e1];exact Nat.le_refl _,by rw[e1];exact k5,.inr ⟨by rw[e1];exact k3.trans p6,.inl rfl⟩⟩
     ·refine zQ 1 ?_;exact⟨.nul,false,s2,_,rfl,hH,k1.trans p1,k2.trans p2,Nat.le_refl _,k5,.inr ⟨k3.trans p6,.inl rfl⟩⟩
    ·rintro fr st ⟨d2,two,s3,tmp,hfr,hH,h1,h2,h3,h4,h5⟩;rw[hfr];clear hfr;generalize wv fr=ee;clear fr
     rcases h5 with h5|⟨h5,h6⟩
     ·have gd:(s3.e==0)=false:=by simpa using h5
      refine zQ 39 ?_;refine qD rfl (by simp[h5]) ?_;refine zQ 4 ?_;refine EvC.ret ⟨rx,_,_,_,rfl,af (rfl),?_⟩;exact⟨s3,⟨h1,h2,by omega,h4,[],rfl,by simp,.inl h5⟩,bM.ak bL hH⟩
     ·have gd:(s3.e==0)=true:=by simpa using h5
      cases b with
      |false=>
       have hg8:(!false)=true:=rfl;refine zQ 14 ?_;refine EvO.pickT (wantD_is rfl rfl rfl gd) rfl hg8 (put_T rfl _) ?_;refine zQ 17 ?_;obtain⟨_,st,hev,rfl,hH⟩:=ck (s:=s3) s.i 4 (by omega) hH;refine qv hev ?_;refine zQ 1 ?_;obtain⟨w1,w2,w3,w4⟩:=cy (bo:=bo) (s:=s3) (i:=s.i) (e:=4) h5 (by decide);generalize gq bo s3 s.i 4=s4 at*;refine zQ 9 ?_;refine qD rfl (by simp[w1]) ?_;refine zQ 4 ?_;refine EvC.ret ⟨rx,_,_,_,rfl,af (rfl),?_⟩;exact⟨s4,⟨w3.trans h1,w4.trans h2,by omega,by omega,[],rfl,by simp,.inl w1⟩,bM.ak bL hH⟩
      |true=>
       have hg8:(!true)=false:=rfl
       cases two with
       |false=>
        have oG:(!false)=true:=rfl;refine zQ 14 ?_;refine EvO.pickF (wantD_is rfl rfl rfl gd) rfl hg8 (put_T rfl _) ?_;refine zQ 10 ?_;refine EvO.pickT (wantD_is rfl rfl rfl gd) rfl oG (put_T rfl _) ?_;refine zQ 6 ?_;obtain⟨_,st,hev,rfl,hH⟩:=ck (s:=s3) s.i 4 (by omega) hH;refine qv hev ?_;refine zQ 1 ?_;obtain⟨w1,w2,w3,w4⟩:=cy (bo:=bo) (s:=s3) (i:=s.i) (e:=4) h5 (by decide);generalize gq bo s3 s.i 4=s4 at*;refine zQ 9 ?_;refine qD rfl (by simp[w1]) ?_;refine zQ 4 ?_;refine EvC.ret ⟨rx,_,_,_,rfl,af (rfl),?_⟩;exact⟨s4,⟨w3.trans h1,w4.trans h2,by omega,by omega,[],rfl,by simp,.inl w1⟩,bM.ak bL hH⟩
       |true=>
        have oG:(!true)=false:=rfl
        obtain⟨a2,rfl,h7⟩:∃a2:List Rg,d2=aX a2∧a2≠[]:=by
         rcases h6 with h6|h6
         ·cases h6
         ·exact h6
        obtain⟨q2,Oh,rfl⟩:∃q a',a2=q::a':=List.exists_cons_of_ne_nil h7;have JA:=(gL (q::a')).arg N S2;have Fp:=(gL (q2::Oh)).arg N S2;have JB:((q::a').map ai)[0]?=some (ai q):=rfl;have hr1:((q2::Oh).map ai)[0]?=some (ai q2):=rfl;refine zQ 14 ?_;refine EvO.pickF (wantD_is rfl rfl rfl gd) rfl hg8 (put_T rfl _) ?_;refine zQ 2 ?_;refine qr (fun Sp PW=>?_) (hg:=wi oG);refine qf (fo:=0) (fun Sm PV=>?_) (hg:=wi oG);refine zQ 2 ?_;refine qr (fun OQ K0=>?_) (hg:=wi oG);refine qf (fo:=0) (fun Sk PT=>?_) (hg:=wi oG);refine zQ 2 ?_;refine EvO.pickF (wantD_is rfl rfl rfl gd) rfl oG (put_T rfl _) ?_;refine zQ 2 ?_;refine zP (fun hgt=>?_) fun hgt=>?_
        ·refine zQ 3 ?_;obtain⟨_,st,hev,rfl,hH⟩:=ck (s:=s3) s.i 4 (by omega) hH;refine qv hev ?_;refine zQ 1 ?_;obtain⟨w1,w2,w3,w4⟩:=cy (bo:=bo) (s:=s3) (i:=s.i) (e:=4) h5 (by decide);generalize gq bo s3 s.i 4=s4 at*;refine zQ 9 ?_;refine qD rfl (by simp[w1]) ?_;refine zQ 4 ?_;refine EvC.ret ⟨rx,_,_,_,rfl,af (rfl),?_⟩;exact⟨s4,⟨w3.trans h1,w4.trans h2,by omega,by omega,[],rfl,by simp,.inl w1⟩,bM.ak bL hH⟩
        ·refine zQ 10 ?_;refine qE rfl (by simp[h5]) ?_;refine zQ 4 ?_;refine qr fun OP KZ=>?_;refine qf (fo:=0) fun Sf PN=>?_;refine zQ 2 ?_;refine qr fun Sd PK=>?_;refine qf (fo:=0) fun Sc PJ=>?_;refine qR ?_;refine EvO.eI (qs:=[(0,_),(1,_)]) rfl rfl rfl rfl ⟨rfl,(ev rfl),(by rfl),rfl,(ev rfl),(by rfl),trivial⟩ (by intro q hq;simp only[List.mem_cons,List.not_mem_nil,or_false] at hq;rcases hq with rfl|rfl<;>exact⟨rfl,by exact Nat.le_of_ble_eq_true rfl⟩) (by show List.foldl _ [_,_] _=_;dsimp only[List.foldl_cons,List.foldl_nil,u2,u1]<;>rfl) (put_T rfl _) ?_;refine qh (s:=2) (vs:=[_]) hH fun k87 st Qp hH=>?_;dsimp only[u2,u1,u3,u4,setMany,u5,u6,D.cells,Nat.reduceAdd,aF,aP,aj,ai] at hH;refine zQ 2 ?_;have hH:Has N S2 st (.lst (.win k87 0 0 1 2) 2 (([(q.1,q2.1)]:List Rg).map ai)::.box k (.mem 0 false (aF gs ba s3))::.lst ba 1 (bo.map aj)::H):=hH;have hfz:=mB hH at0 (L:=s0.bs.length) (n:=16) (fun k hk=>by simp only[D.ref] at hk;rw[←bL];omega) (by decide);refine EvC.ret ⟨rx,_,_,_,rfl,af hfz,⟨s3,⟨h1,h2,by omega,h4,[(q.1,q2.1)],rfl,by simp,.inr ⟨h5,by omega⟩⟩,bM.ak bL (hH.drop 1)⟩⟩
 ·have e2:s1.e=0:=by rw[e1];exact he
  have e3:s1.i=s.i∧s1.o=s.o∧s1.g=s.g:=by rw[e1];exact⟨rfl,rfl,rfl⟩
  clear e1;refine qE rfl (by simp[e2]) ?_;refine zQ 5 ?_;refine EvO.go (d:=.bool true) (st1:=_) rfl rfl rfl (put_T rfl _) ?_;refine zQ 6 ?_;obtain⟨_,st,hev,rfl,hH⟩:=ck (s:=s1) s.i 4 (by omega) hH;refine qv hev ?_;refine zQ 1 ?_;obtain⟨w1,w2,w3,w4⟩:=cy (bo:=bo) (s:=s1) (i:=s.i) (e:=4) e2 (by decide);refine zQ 4 ?_;refine EvC.ret ⟨rx,_,_,_,rfl,af (rfl),?_⟩;exact⟨_,⟨by omega,by omega,by omega,by omega,[],rfl,by simp,.inl w1⟩,bM.ak bL hH⟩
end Go.Proofs.YtnleclohocdkaaaGreat
