/-
 Are nodes a pattern? syntax.Right, walked.
-/
import Derived.Test.YtnleclohocdkaaaGreatTGHr
import Derived.Test.YtnleclohocdkaaaGreatTGPe
import Derived.Test.YtnleclohocdkaaaGreatTGPb
set_option maxRecDepth 100000
set_option maxHeartbeats 4000000
set_option linter.unusedSimpArgs false
set_option linter.unusedVariables false
namespace Go.Proofs.YtnleclohocdkaaaGreat
open Go.V Go
def lM (fr:Go.V.Fr) (k:Nat):Go.V.D:=Go.V.nth .junk fr.loc k
theorem AJ {s0:St} {n:Nod} (hn:n.ok):Ev pv 129 [.agg (aO n)] s0 (.bool (rY n)) s0:=by
 refine Ev.mk1 rfl I7 rfl rfl rfl ?_;refine zE ?_;obtain⟨hSb,hF,hH⟩:=ri s0;generalize enterSt .ro s0=S at*;have Bp:=hn.1.arg s0.bs.length S;have px:=hn.2.1;refine zQ 2 ?_;refine qb hH fun k1 st oE hH=>?_;dsimp only[u2,u1,u3,u4,setMany,u5,u6,D.cells,Nat.reduceAdd,aO] at hH;refine zQ 10 ?_;refine EvC.jI 2 (.bool (((n.op==2)||((n.rs.length:Nat):Int)==0) &&((n.op==5)||((n.mn==0) &&(n.mx==0) &&!n.lz)) &&((n.op==6)||(n.cap==0)))) [] ?_ (fun ff tmp=>?_)
 ·refine zQ 4 ?_;refine EvO.two 10 rfl (fun hg3=>?_) (fun hg3=>?_)
  ·refine zQ 8 ?_;refine EvO.two 18 rfl (fun bX=>?_) (fun bX=>?_)
   ·refine zQ 20 ?_;refine EvO.two 38 rfl (fun iw=>?_) (fun iw=>?_)
    ·refine zQ 6 ?_;refine EvO.nil (aI ?_);refine zG ?_
     all_goals(simp[hg3,bX,iw];done)
    ·refine zQ 6 ?_;refine EvO.nil (aI ?_);refine zG ?_
     all_goals(simp[hg3,bX,iw];done)
   ·refine zQ 4 ?_;refine EvO.two 22 rfl (fun ja=>?_) (fun ja=>?_)
    ·refine zQ 3 ?_;refine EvO.pickT (wantD_is rfl rfl rfl bX) rfl ja (put_T rfl _) ?_;refine zQ 1 ?_;refine EvO.two 27 rfl (fun jY=>?_) (fun jY=>?_)
     ·refine zQ 3 ?_;refine EvO.pickT (wantD_is rfl rfl rfl bX) rfl jY (put_T rfl _) ?_;refine zQ 3 ?_;refine EvO.two 34 rfl (fun lT=>?_) (fun lT=>?_)
      ·refine zQ 4 ?_;refine EvO.two 38 rfl (fun iw=>?_) (fun iw=>?_)
       ·refine zQ 3 ?_;refine EvO.pickT (wantD_is rfl rfl rfl lT) rfl iw (put_T rfl _) ?_;refine zQ 2 ?_;refine EvO.nil (aI ?_);refine zG ?_
        all_goals(simp[hg3,bX,ja,jY,lT,iw];done)
       ·refine zQ 3 ?_;refine EvO.pickF (wantD_is rfl rfl rfl lT) rfl iw (put_T rfl _) ?_;refine zQ 2 ?_;refine EvO.nil (aI ?_);refine zG ?_
        all_goals(simp[hg3,bX,ja,jY,lT,iw];done)
      ·refine zQ 10 ?_;refine EvO.nil (aI ?_);refine zG ?_
       all_goals(simp[hg3,bX,ja,jY,lT];done)
     ·refine zQ 3 ?_;refine EvO.pickF (wantD_is rfl rfl rfl bX) rfl jY (put_T rfl _) ?_;refine zQ 13 ?_;refine EvO.nil (aI ?_);refine zG ?_
      all_goals(simp[hg3,bX,ja,jY];done)
    ·refine zQ 3 ?_;refine EvO.pickF (wantD_is rfl rfl rfl bX) rfl ja (put_T rfl _) ?_;refine zQ 18 ?_;refine EvO.nil (aI ?_);refine zG ?_
     all_goals(simp[hg3,bX,ja];done)
  ·refine zQ 2 ?_;refine qn ?_ (hg:=wi hg3);simp only[List.length_map];refine zQ 3 ?_;refine EvO.two 16 rfl (fun ez=>?_) (fun ez=>?_)
   ·refine zQ 2 ?_;refine EvO.two 18 rfl (fun bX=>?_) (fun bX=>?_)
    ·refine zQ 13 ?_;refine EvO.pickT (wantD_is rfl rfl rfl ez) rfl bX (put_T rfl _) ?_;refine zQ 6 ?_;refine EvO.two 38 rfl (fun iw=>?_) (fun iw=>?_)
     ·refine zQ 6 ?_;refine EvO.nil (aI ?_);refine zG ?_
      all_goals(simp[hg3,ez,bX,iw];done)
     ·refine zQ 6 ?_;refine EvO.nil (aI ?_);refine zG ?_
      all_goals(simp[hg3,ez,bX,iw];done)
    ·refine zQ 4 ?_;refine EvO.two 22 rfl (fun ja=>?_) (fun ja=>?_)
     ·refine zQ 3 ?_;refine EvO.pickT (wantD_is rfl rfl rfl bX) rfl ja (put_T rfl _) ?_;refine zQ 1 ?_;refine EvO.two 27 rfl (fun jY=>?_) (fun jY=>?_)
      ·refine zQ 3 ?_;refine EvO.pickT (wantD_is rfl rfl rfl bX) rfl jY (put_T rfl _) ?_;refine EvO.pickF (wantD_is rfl rfl rfl ez) rfl bX (put_T rfl _) ?_;refine zQ 2 ?_;refine EvO.two 34 rfl (fun lT=>?_) (fun lT=>?_)
       ·refine zQ 4 ?_;refine EvO.two 38 rfl (fun iw=>?_) (fun iw=>?_)
        ·refine zQ 3 ?_;refine EvO.pickT (wantD_is rfl rfl rfl lT) rfl iw (put_T rfl _) ?_;refine zQ 2 ?_;refine EvO.nil (aI ?_);refine zG ?_
         all_goals(simp[hg3,ez,bX,ja,jY,lT,iw];done)
        ·refine zQ 3 ?_;refine EvO.pickF (wantD_is rfl rfl rfl lT) rfl iw (put_T rfl _) ?_;refine zQ 2 ?_;refine EvO.nil (aI ?_);refine zG ?_
         all_goals(simp[hg3,ez,bX,ja,jY,lT,iw];done)
       ·refine zQ 10 ?_;refine EvO.nil (aI ?_);refine zG ?_
        all_goals(simp[hg3,ez,bX,ja,jY,lT];done)
      ·refine zQ 3 ?_;refine EvO.pickF (wantD_is rfl rfl rfl bX) rfl jY (put_T rfl _) ?_;refine EvO.pickF (wantD_is rfl rfl rfl ez) rfl bX (put_T rfl _) ?_;refine zQ 12 ?_;refine EvO.nil (aI ?_);refine zG ?_
       all_goals(simp[hg3,ez,bX,ja,jY];done)
     ·refine zQ 3 ?_;refine EvO.pickF (wantD_is rfl rfl rfl bX) rfl ja (put_T rfl _) ?_;refine zQ 5 ?_;refine EvO.pickF (wantD_is rfl rfl rfl ez) rfl bX (put_T rfl _) ?_;refine zQ 12 ?_;refine EvO.nil (aI ?_);refine zG ?_
      all_goals(simp[hg3,ez,bX,ja];done)
   ·refine zQ 28 ?_;refine EvO.nil (aI ?_);refine zG ?_
    all_goals(simp[hg3,ez];done)
 dsimp only[setW,List.foldl,nth,u2,u1];refine EvC.ret ⟨rx,_,rfl,rl hSb hH (rfl)⟩
theorem vI {s0:St} {n:Nod} (hn:n.ok) {g:Nat} (hg:g≤1048576):Ev pv 113 [.agg (aO n),.int .i64 (g:Nat)] s0 (.tup [.int .i64 (dL n (g:Nat)).1,.bool (dL n (g:Nat)).2]) s0:=by
 refine Ev.mk1 rfl Jc rfl rfl rfl ?_;refine zE ?_;obtain⟨hSb,hF,hH⟩:=ri s0;generalize enterSt .ro s0=S at*;have Bp:=hn.1.arg s0.bs.length S;have px:=hn.2.1;refine zQ 2 ?_;refine qb hH fun k2 st hk2 hH=>?_;dsimp only[u2,u1,u3,u4,setMany,u5,u6,D.cells,Nat.reduceAdd,aO] at hH;refine zQ 6 ?_;refine EvO.hloadS (m:=7) hH rfl (ev rfl) (by exact at0) (by dsimp only[List.drop_succ_cons,List.drop_zero,List.take_succ_cons,List.take_zero,aO]<;>rfl) rfl rfl (by dsimp only[Fr.put,u1,u2]<;>rfl) ?_;refine qv (AJ hn) ?_;refine zQ 2 ?_;unfold dL
 cases hp:rY n with
 |false=>
  rw[if_pos rfl];refine zQ 6 ?_;refine EvC.ret ⟨rx,_,rfl,rl hSb hH (rfl)⟩
 |true=>
  rw[if_neg (by simp)];refine zQ 15 ?_
  by_cases q1:n.op=1
  ·rw[if_pos (.inl q1)];refine qD rfl (by simp[q1]) ?_;refine zQ 1 ?_;refine qD rfl (by simp[q1]) ?_;refine zQ 8 ?_;refine EvC.ret ⟨rx,_,rfl,rl hSb hH (rfl)⟩
  refine qE rfl (by simp[q1]) ?_;refine zQ 5 ?_
  by_cases q7:n.op=7
  ·rw[if_pos (.inr (.inl q7))];refine qD rfl (by simp[q7]) ?_;refine zQ 1 ?_;refine qD rfl (by simp[q7]) ?_;refine zQ 8 ?_;refine EvC.ret ⟨rx,_,rfl,rl hSb hH (rfl)⟩
  refine qE rfl (by simp[q7]) ?_;refine zQ 4 ?_
  by_cases q8:n.op=8
  ·rw[if_pos (.inr (.inr q8))];refine qD rfl (by simp[q8]) ?_;refine zQ 8 ?_;refine EvC.ret ⟨rx,_,rfl,rl hSb hH (rfl)⟩
  refine qE rfl (by simp[q8]) ?_;rw[if_neg (by omega)];refine zQ 5 ?_;refine zI (fun q2=>?_) fun q2=>?_
  ·rw[if_pos q2];refine qq<|EvC.Gb [4,5] (fun ff=>ff 4=.int .i64 0∧ff 5=.bool ((n.kids==0) &&dM n.rs)) ?_ (fun ff tmp zo=>?_)
   ·refine zQ 4 ?_;refine EvO.two 23 rfl (fun hg3=>?_) (fun hg3=>?_)
    ·refine zQ 2 ?_;refine qv (tI (Bp.rows hH) px) ?_ (hg:=wi hg3);refine zQ 3 ?_;refine EvO.nil (i7 ?_ ?_)
     ·dsimp only[setW,List.foldl,nth,u2,u1]
     ·dsimp only[nth];refine zF ?_;refine⟨?_,?_⟩<;>(first|rfl|(simp[hg3];done)|(simp_all;done)|(simp[hg3];omega)|(simp_all;omega))
    ·refine zQ 6 ?_;refine EvO.nil (i7 ?_ ?_)
     ·dsimp only[setW,List.foldl,nth,u2,u1]
     ·dsimp only[nth];refine zF ?_;refine⟨?_,?_⟩<;>(first|rfl|(simp[hg3];done)|(simp_all;done)|(simp[hg3];omega)|(simp_all;omega))
   dsimp only[setW,List.foldl,nth,u2,u1];obtain⟨BE,BD⟩:=zo;rw[BE,BD];refine EvC.ret ⟨rx,_,rfl,rl hSb hH (rfl)⟩
  rw[if_neg q2];refine zQ 6 ?_
  by_cases q3:n.op=3
  ·rw[if_pos (.inl q3)];refine qD rfl (by simp[q3]) ?_;refine zQ 1 ?_;refine qD rfl (by simp[q3]) ?_;refine zQ 10 ?_;refine EvC.ret ⟨rx,_,rfl,rl hSb hH (rfl)⟩
  refine qE rfl (by simp[q3]) ?_;refine zQ 4 ?_
  by_cases q4:n.op=4
  ·rw[if_pos (.inr q4)];refine qD rfl (by simp[q4]) ?_;refine zQ 10 ?_;refine EvC.ret ⟨rx,_,rfl,rl hSb hH (rfl)⟩
  rw[if_neg (by omega)];refine qE rfl (by simp[q4]) ?_;refine zQ 5 ?_;refine zI (fun q5=>?_) fun q5=>?_
  ·rw[if_pos q5];refine qq<|EvC.Gb [4,5] (fun ff=>ff 4=.int .i64 1∧ff 5=.bool ((n.kids==1) &&decide (n.mn≥0) &&decide (n.mn≤30) &&((n.mx==-1)||(decide (n.mx≥n.mn) &&decide (n.mx≤30))))) ?_ (fun ff tmp zo=>?_)
   ·refine zQ 4 ?_;refine EvO.two 41 rfl (fun hg3=>?_) (fun hg3=>?_)
    ·refine zQ 5 ?_;refine EvO.two 46 rfl (fun hg8=>?_) (fun hg8=>?_)
     ·refine zQ 5 ?_;refine EvO.two 51 rfl (fun hg13=>?_) (fun hg13=>?_)
      ·refine zQ 4 ?_;refine EvO.two 55 rfl (fun bu=>?_) (fun bu=>?_)
       ·refine zQ 10 ?_;refine EvO.pickT (wantD_is rfl rfl rfl hg13) rfl bu (put_T rfl _) ?_;refine zQ 3 ?_;refine EvO.nil (i7 ?_ ?_)
        ·dsimp only[setW,List.foldl,nth,u2,u1]
        ·dsimp only[nth];refine zF ?_;refine⟨?_,?_⟩<;>(first|rfl|(simp[hg3,hg8,hg13,bu];done)|(simp_all;done)|(simp[hg3,hg8,hg13,bu];omega)|(simp_all;omega))
       ·refine zQ 6 ?_;refine EvO.two 61 rfl (fun wE=>?_) (fun wE=>?_)
        ·refine zQ 3 ?_;refine EvO.pickT (wantD_is rfl rfl rfl bu) rfl wE (put_T rfl _) ?_;refine EvO.pickF (wantD_is rfl rfl rfl hg13) rfl bu (put_T rfl _) ?_;refine zQ 3 ?_;refine EvO.nil (i7 ?_ ?_)
         ·dsimp only[setW,List.foldl,nth,u2,u1]
         ·dsimp only[nth];refine zF ?_;refine⟨?_,?_⟩<;>(first|rfl|(simp[hg3,hg8,hg13,bu,wE];done)|(simp_all;done)|(simp[hg3,hg8,hg13,bu,wE];omega)|(simp_all;omega))
        ·refine zQ 3 ?_;refine EvO.pickF (wantD_is rfl rfl rfl bu) rfl wE (put_T rfl _) ?_;refine EvO.pickF (wantD_is rfl rfl rfl hg13) rfl bu (put_T rfl _) ?_;refine zQ 3 ?_;refine EvO.nil (i7 ?_ ?_)
         ·dsimp only[setW,List.foldl,nth,u2,u1]
         ·dsimp only[nth];refine zF ?_;refine⟨?_,?_⟩<;>(first|rfl|(simp[hg3,hg8,hg13,bu,wE];done)|(simp_all;done)|(simp[hg3,hg8,hg13,bu,wE];omega)|(simp_all;omega))
      ·refine zQ 18 ?_;refine EvO.nil (i7 ?_ ?_)
       ·dsimp only[setW,List.foldl,nth,u2,u1]
       ·dsimp only[nth];refine zF ?_;refine⟨?_,?_⟩<;>(first|rfl|(simp[hg3,hg8,hg13];done)|(simp_all;done)|(simp[hg3,hg8,hg13];omega)|(simp_all;omega))
     ·refine zQ 23 ?_;refine EvO.nil (i7 ?_ ?_)
      ·dsimp only[setW,List.foldl,nth,u2,u1]
      ·dsimp only[nth];refine zF ?_;refine⟨?_,?_⟩<;>(first|rfl|(simp[hg3,hg8];done)|(simp_all;done)|(simp[hg3,hg8];omega)|(simp_all;omega))
    ·refine zQ 28 ?_;refine EvO.nil (i7 ?_ ?_)
     ·dsimp only[setW,List.foldl,nth,u2,u1]
     ·dsimp only[nth];refine zF ?_;refine⟨?_,?_⟩<;>(first|rfl|(simp[hg3];done)|(simp_all;done)|(simp[hg3];omega)|(simp_all;omega))
   dsimp only[setW,List.foldl,nth,u2,u1];obtain⟨BE,BD⟩:=zo;rw[BE,BD];refine EvC.ret ⟨rx,_,rfl,rl hSb hH (rfl)⟩
  rw[if_neg q5];refine zQ 5 ?_;refine zI (fun q6=>?_) fun q6=>?_
  ·rw[if_pos q6];refine qq<|EvC.Gb [4,5] (fun ff=>ff 4=.int .i64 1∧ff 5=.bool ((n.kids==1) &&(n.cap==((g+1:Nat):Int)) &&decide (n.cap≤4))) ?_ (fun ff tmp zo=>?_)
   ·refine zQ 4 ?_;refine EvO.two 73 rfl (fun hg3=>?_) (fun hg3=>?_)
    ·refine zQ 7 ?_;refine EvO.two 80 rfl (fun cm=>?_) (fun cm=>?_)
     ·refine zQ 6 ?_;refine EvO.nil (i7 ?_ ?_)
      ·dsimp only[setW,List.foldl,nth,u2,u1]
      ·dsimp only[nth];refine zF ?_;refine⟨?_,?_⟩<;>(first|rfl|(simp[hg3,cm];done)|(simp_all;done)|(simp[hg3,cm];omega)|(simp_all;omega))
     ·refine zQ 6 ?_;refine EvO.nil (i7 ?_ ?_)
      ·dsimp only[setW,List.foldl,nth,u2,u1]
      ·dsimp only[nth];refine zF ?_;refine⟨?_,?_⟩<;>(first|rfl|(simp[hg3,cm];done)|(simp_all;done)|(simp[hg3,cm];omega)|(simp_all;omega))
    ·refine zQ 13 ?_;refine EvO.nil (i7 ?_ ?_)
     ·dsimp only[setW,List.foldl,nth,u2,u1]
     ·dsimp only[nth];refine zF ?_;refine⟨?_,?_⟩<;>(first|rfl|(simp[hg3];done)|(simp_all;done)|(simp[hg3];omega)|(simp_all;omega))
   dsimp only[setW,List.foldl,nth,u2,u1];obtain⟨BE,BD⟩:=zo;rw[BE,BD];refine EvC.ret ⟨rx,_,rfl,rl hSb hH (rfl)⟩
  ·rw[if_neg q6];refine zQ 6 ?_;refine EvC.ret ⟨rx,_,rfl,rl hSb hH (rfl)⟩
theorem ub {n:Nod} (h:n.ok):refs (aO n)=0:=by
 have:=h.1.ref;simp only[aO,refs,D.ref,this,Nat.max_self]
def l_ (d:D) (at_ g:Nat):List D:=[d,.int .i64 (at_:Nat),.int .i64 (g:Nat)]
theorem AY {l:List Nod} {d:D} (hl:l.length≤1048576) (hi:∀n∈l,n.ok) (hd:SlD d 7 (l.map aO)):∀(f:Nat) {N k:Nat} {S s0:St} {H:List aN} {at_ g:Nat},f≤241→g≤4→Has N S s0 (.box k (.mem 0 false (l_ d at_ g))::H)→
  ∃r ae,Ev pv 88 [.ptr k 0 0,.int .i64 ((241-f:Nat):Int)] s0 r ae∧r=.bool (fH l f at_ g).isSome∧∃a' g',Has N S ae (.box k (.mem 0 false (l_ d a' g'))::H)∧g'≤4∧∀q,fH l f at_ g=some q→a'=q.1∧g'=q.2:=by
 intro f
 induction f with
 |zero=>
  intro N k S s0 H at_ g hf hg hH;refine Ev.iB rfl IG rfl rfl rfl ?_;refine zE ?_;have bM:=hH;have hH:=hH.bO;have bL:(enterSt .rw s0).bs=s0.bs:=rfl;generalize enterSt .rw s0=S2 at*;have hc:=hd.arg N S2;refine zQ 6 ?_;refine EvC.cutT 21 (.bool (decide ((at_:Int)≥(l.length:Nat))||decide (((241-0:Nat):Int)>240))) [] ?_ (fun ff tmp htmp=>?_)
  ·refine zQ 8 ?_;refine qn ?_;simp only[List.length_map];refine zQ 2 ?_;refine EvO.two 18 rfl (fun cm=>?_) (fun cm=>?_)
   ·refine zQ 3 ?_;refine EvO.nil (leafT ?_ ?_)
    ·dsimp only[setW,List.foldl,nth,u2,u1]
     all_goals(first|rfl|simp)
    ·refine zF ?_
     all_goals(simp[cm];done)
   ·refine zQ 3 ?_;refine EvO.nil (leafT ?_ ?_)
    ·dsimp only[setW,List.foldl,nth,u2,u1]
     all_goals(first|rfl|simp)
    ·refine zF ?_
     all_goals(simp[cm];done)
  dsimp only[setW,List.foldl,nth,u2,u1];have hT:(decide ((at_:Int)≥(l.length:Nat))||decide (((241-0:Nat):Int)>240))=true:=by simp
  rw[hT] at htmp;refine zQ 5 ?_;refine EvC.ret ⟨rx,_,_,_,rfl,af (rfl),?_⟩;exact⟨rfl,_,_,bM.ak bL hH,hg,fun q hq=>by simp[fH] at hq⟩
 |succ f ih=>
  intro N k S s0 H at_ g hf hg hH;refine Ev.iB rfl IG rfl rfl rfl ?_;refine zE ?_;have bM:=hH;have hH:=hH.bO;have bL:(enterSt .rw s0).bs=s0.bs:=rfl;generalize enterSt .rw s0=S2 at*;have hc:=hd.arg N S2;refine zQ 6 ?_;refine EvC.cutT 21 (.bool (decide ((at_:Int)≥(l.length:Nat))||decide (((241-(f+1):Nat):Int)>240))) [] ?_ (fun ff tmp htmp=>?_)
  ·refine zQ 8 ?_;refine qn ?_;simp only[List.length_map];refine zQ 2 ?_;refine EvO.two 18 rfl (fun cm=>?_) (fun cm=>?_)
   ·refine zQ 3 ?_;refine EvO.nil (leafT ?_ ?_)
    ·dsimp only[setW,List.foldl,nth,u2,u1]
     all_goals(first|rfl|simp)
    ·refine zF ?_
     all_goals(simp_all;done)
   ·refine zQ 3 ?_;refine EvO.nil (leafT ?_ ?_)
    ·dsimp only[setW,List.foldl,nth,u2,u1]
     all_goals(first|rfl|simp)
    ·refine zF ?_
     all_goals(simp_all;omega)
  dsimp only[setW,List.foldl,nth,u2,u1]
  by_cases ha:l.length≤at_
  ·have hT:(decide ((at_:Int)≥(l.length:Nat))||decide (((241-(f+1):Nat):Int)>240))=true:=by
    rw[Bool.or_eq_true];exact .inl (by rw[decide_eq_true_eq];omega)
   rw[hT] at htmp;have hn:fH l (f+1) at_ g=none:=by unfold fH;rw[List.getElem?_eq_none ha]
   rw[hn];refine zQ 5 ?_;refine EvC.ret ⟨rx,_,_,_,rfl,af (rfl),?_⟩;exact⟨rfl,_,_,bM.ak bL hH,hg,fun q hq=>by cases hq⟩
  ·have hT:(decide ((at_:Int)≥(l.length:Nat))||decide (((241-(f+1):Nat):Int)>240))=false:=by
    rw[Bool.or_eq_false_iff];exact⟨by rw[decide_eq_false_iff_not];omega,by rw[decide_eq_false_iff_not];omega⟩
   rw[hT] at htmp
   obtain⟨n,hn⟩:∃n,l[at_]?=some n:=⟨l[at_]'(by omega),List.getElem?_eq_getElem _⟩
   have lS:=hi n (List.mem_of_getElem? hn);have hr1:=jy hn;have Es:=ub lS
   have ir:fH l (f+1) at_ g=if(dL n (g:Nat)).2=true then gR (fH l f) (dL n (g:Nat)).1.toNat (at_+1) (if n.op=6 then g+1 else g) else none:=by
    rw[fH,hn]
   rw[ir];clear ir;refine zQ 12 ?_;refine qr fun Nn HF=>?_;refine EvO.cq rfl (ev rfl) (by assumption) rfl (put_T rfl _) ?_;refine qa hH fun k5 st FJ hH=>?_;dsimp only[u2,u1,u3,u4,setMany,u5,u6,D.cells,Nat.reduceAdd,l_,aO] at hH;refine EvO.hstoreA hH rfl (ev rfl) (ev rfl) (by rfl) (by exact rfl) (by exact at0) (by exact rfl) (by exact .inr (by assumption)) (fun st hH=>?_);dsimp only[u2,u1,u3,u4,setMany,u5,u6,D.cells,Nat.reduceAdd,l_,aO] at hH;refine zQ 3 ?_;refine EvO.hloadS (m:=7) hH rfl (ev rfl) (by exact at0) (by dsimp only[List.drop_succ_cons,List.drop_zero,List.take_succ_cons,List.take_zero,l_,aO]<;>rfl) rfl rfl (put_T rfl _) ?_;refine zQ 4 ?_;refine qv (vI lS (by omega)) ?_;refine zQ 12 ?_
   cases hsh:(dL n (g:Nat)).2 with
   |false=>
    rw[if_neg (by simp)];refine zQ 5 ?_;refine EvC.ret ⟨rx,_,_,_,rfl,af (rfl),?_⟩;exact⟨rfl,_,_,bM.ak bL (hH.drop 1),hg,fun q hq=>by cases hq⟩
   |true=>
    rw[if_pos rfl];obtain⟨⟨oE,_⟩,hk2,FK⟩:=tB hsh;have JF:=lS.2.2;obtain⟨kd,GD⟩:∃kd:Nat,(dL n (g:Nat)).1=(kd:Int):=Int.eq_ofNat_of_zero_le hk2;rw[GD,Int.toNat_natCast];rw[GD,Int.toNat_natCast] at oE;refine zQ 11 ?_;refine qT hH at1 fun st hH=>?_;dsimp only[u2,u1,u3,u4,setMany,u5,u6,D.cells,Nat.reduceAdd,l_,aO] at hH;refine zQ 8 ?_;refine EvC.merge (fun fr st=>∃(g2:Nat) (tmp:List (Nat×D)),fr=⟨8,[.ptr k 0 0,.int .i64 ((241-(f+1):Nat):Int),lM fr 2,lM fr 3,.bool false,.ptr k5 0 0,.int .i64 (kd:Nat),.bool true],tmp⟩∧Has N S2 st (.box k (.mem 0 false [d,.int .i64 ((at_+1:Nat):Int),.int .i64 (g2:Nat)])::.box k5 (.mem 0 false (aO n))::H)∧(g2=if n.op=6 then g+1 else g)∧(g2≤4)) ?_ ?_
    ·refine zI (fun q6=>?_) fun q6=>?_
     ·have:=FK q6;refine zQ 8 ?_;refine qT hH at1 fun st hH=>?_;dsimp only[u2,u1,u3,u4,setMany,u5,u6,D.cells,Nat.reduceAdd,l_,aO] at hH;refine zQ 1 ?_;exact⟨g+1,_,rfl,(by have:=hH.front at1;exact this),by rw[if_pos q6],by omega⟩
     ·refine zQ 1 ?_;exact⟨g,_,rfl,(by have:=hH.front at1;exact this),by rw[if_neg q6],hg⟩
    ·rintro fr st ⟨g2,tmp,hfr,hH,bU,hg3⟩;rw[hfr];clear hfr;generalize lM fr=ee;clear fr;rw[←bU];refine zQ 2 ?_;refine EvC.loop (fun mm fr st=>∃(kk a2 g4:Nat),fr.clean=⟨8,[.ptr k 0 0,.int .i64 ((241-(f+1):Nat):Int),lM fr 2,lM fr 3,.bool false,.ptr k5 0 0,.int .i64 (kk:Nat),.bool true],[]⟩∧Has N S2 st (.box k (.mem 0 false [d,.int .i64 (a2:Nat),.int .i64 (g4:Nat)])::.box k5 (.mem 0 false (aO n))::H)∧(gR (fH l f) kk a2 g4=gR (fH l f) kd (at_+1) g2)∧(g4≤4)∧(kk=mm)∧(kk≤9223372036854775807)) (kd) ?_ ?_
     ·exact⟨kd,at_+1,g2,rfl,hH,rfl,hg3,rfl,by omega⟩
     rintro mm fr st ⟨kk,a2,g4,hfr,hH,hX,gd,CF,hkk⟩;rw[hfr];clear hfr;generalize lM fr=ee;clear fr;refine zQ 6 ?_
     cases kk with
     |zero=>
      refine EvC.cond (v:=false) (by dsimp only[Fr.ev,Fr.get,nth,V.look];rfl) (fun h=>by cases h) (fun _=>?_);refine zQ 5 ?_;refine EvC.ret ⟨rx,_,_,_,rfl,af (rfl),?_⟩;exact⟨by rw[←hX];rfl,_,_,bM.ak bL (hH.erase 1),gd,fun q hq=>by rw[←hX] at hq;simp only[gR,Option.some.injEq] at hq;subst hq;exact⟨rfl,rfl⟩⟩
     |succ kk=>
      rw[gR] at hX;refine qD rfl (by simp) ?_;refine zQ 7 ?_;refine EvO.gC (z:=((241-f:Nat):Int)) rfl (ev rfl) (ev rfl) (by(try simp only[List.length_reverse,List.length_cons,List.length_nil,List.length_append,List.length_map,List.length_set]);rw[wrap_i64 (by omega) (by omega)]<;>omega) (put_T rfl _) ?_;obtain⟨_,st,hev,rfl,a',g',hH,fL,hq⟩:=ih (at_:=a2) (g:=g4) (by omega) gd hH;refine qv hev ?_;refine zQ 2 ?_
      cases ho:fH l f a2 g4 with
      |none=>
       rw[ho] at hX;refine zQ 5 ?_;refine EvC.ret ⟨rx,_,_,_,rfl,af (rfl),?_⟩;exact⟨by rw[←hX];rfl,_,_,bM.ak bL (hH.erase 1),fL,fun q hq=>by rw[←hX] at hq;cases hq⟩
      |some q=>
       rw[ho] at hX;obtain⟨rfl,rfl⟩:=hq q ho;refine zQ 4 ?_;refine EvO.kb (z:=((kk:Nat):Int)) rfl (ev rfl) (ev rfl) (by(try simp only[List.length_reverse,List.length_cons,List.length_nil,List.length_append,List.length_map,List.length_set]);rw[wrap_i64 (by omega) (by omega)]<;>omega) (put_T rfl _) ?_;refine zQ 2 ?_;exact⟨mm-1,by omega,⟨kk,q.1,q.2,rfl,hH,hX,fL,by omega,by omega⟩⟩
theorem yS {s0:St} {x:Nl} (hx:x.ok):Ev pv 43 [x.d] s0 (.bool (eG x.l)) s0:=by
 refine Ev.mk1 rfl MB rfl rfl rfl ?_;refine zE ?_;obtain⟨hSb,hF,hH⟩:=ri s0;generalize enterSt .ro s0=S at*;have hc:=hx.c.arg s0.bs.length S;have hl:=hx.nl;have tj:=hx.c;refine zQ 6 ?_;refine EvC.cutT 11 (.bool (decide (((x.l.length:Nat):Int)<1)||decide (((x.l.length:Nat):Int)>480))) [] ?_ (fun ff tmp htmp=>?_)
 ·refine qm ?_;refine qn ?_;simp only[List.length_map];refine zQ 2 ?_;refine EvO.two 7 rfl (fun hg3=>?_) (fun hg3=>?_)
  ·refine zQ 4 ?_;refine EvO.nil (leafT ?_ ?_)
   ·dsimp only[setW,List.foldl,nth,u2,u1]
    all_goals(first|rfl|simp)
   ·refine zF ?_
    all_goals(simp[hg3];done)
  ·refine zQ 1 ?_;refine qn ?_ (hg:=wi hg3);simp only[List.length_map];refine zQ 2 ?_;refine EvO.nil (leafT ?_ ?_)
   ·dsimp only[setW,List.foldl,nth,u2,u1]
    all_goals(first|rfl|simp)
   ·refine zF ?_
    all_goals(simp[hg3];done)
 dsimp only[setW,List.foldl,nth,u2,u1]
 by_cases hlen:1≤x.l.length∧x.l.length≤480
 ·have hT:(decide (((x.l.length:Nat):Int)<1)||decide (((x.l.length:Nat):Int)>480))=false:=by
   rw[Bool.or_eq_false_iff];exact⟨by rw[decide_eq_false_iff_not];omega,by rw[decide_eq_false_iff_not];omega⟩
  rw[hT] at htmp
  have hR:eG x.l=(match fH x.l 241 0 0 with|some r=>decide (r.1=x.l.length)|none=>false):=by
   unfold eG;rw[decide_eq_true hlen.1,decide_eq_true hlen.2];rfl
  rw[hR];clear hR;refine zQ 5 ?_;refine EvO.eI (qs:=[(0,_)]) rfl rfl rfl rfl ⟨rfl,(ev rfl),(by exact(SlD.cells (by assumption)).1),trivial⟩ (by intro q hq;simp only[List.mem_cons,List.not_mem_nil,or_false] at hq;rcases hq with rfl<;>exact⟨rfl,by exact Nat.le_of_ble_eq_true rfl⟩) (by show List.foldl _ [_,_,_] _=_;dsimp only[List.foldl_cons,List.foldl_nil,u2,u1]<;>rfl) (put_T rfl _) ?_;refine qb hH fun k14 st FL hH=>?_;refine zQ 2 ?_;have hH:Has s0.bs.length S st (.box k14 (.mem 0 false (l_ x.d 0 0))::[]):=hH
  cases bU:(fH x.l 241 0 0).isSome with
  |true=>
   obtain⟨q,hq⟩:=Option.isSome_iff_exists.1 bU;refine zQ 3 ?_;obtain⟨_,st,hev,rfl,a',g',hH,fL,HD⟩:=AY hl hx.i hx.c 241 (by omega) (by omega) hH;refine qv hev ?_;refine zQ 6 ?_;refine qn ?_ (hg:=wi bU);simp only[List.length_map];refine zQ 4 ?_;obtain⟨rfl,rfl⟩:=HD q hq;rw[hq]
   have he:decide (q.1=x.l.length)=(((q.1:Nat):Int)==((x.l.length:Nat):Int)):=by
    rw[Bool.eq_iff_iff];simp only[decide_eq_true_eq,beq_iff_eq];omega
   simp only[he];refine EvC.ret ⟨rx,_,rfl,rl hSb hH (rfl)⟩
  |false=>
   have hq:fH x.l 241 0 0=none:=by
    cases hq:fH x.l 241 0 0 with
    |none=>rfl
    |some q=>rw[hq] at bU;cases bU
   refine zQ 3 ?_;obtain⟨_,st,hev,rfl,a',g',hH,fL,HD⟩:=AY hl hx.i hx.c 241 (by omega) (by omega) hH;refine qv hev ?_;refine zQ 11 ?_;rw[hq];refine EvC.ret ⟨rx,_,rfl,rl hSb hH (rfl)⟩
 ·have hT:(decide (((x.l.length:Nat):Int)<1)||decide (((x.l.length:Nat):Int)>480))=true:=by
   rw[Bool.or_eq_true,decide_eq_true_eq,decide_eq_true_eq];omega
  rw[hT] at htmp
  have hR:eG x.l=false:=by
   unfold eG
   by_cases h1:1≤x.l.length
   ·rw[decide_eq_true h1,decide_eq_false (fun h2=>hlen ⟨h1,h2⟩)];rfl
   ·rw[decide_eq_false h1];rfl
  rw[hR];refine zQ 5 ?_;refine EvC.ret ⟨rx,_,rfl,rl hSb hH (rfl)⟩
def aD (fr:Go.V.Fr) (k:Nat):Go.V.D:=Go.V.nth .junk fr.loc k
def kX (es:List Int) (a:Nat) (M:List Int):List Int:=es.take a++M++es.drop (a+M.length)
theorem xx {es M:List Int} {a:Nat} (h:a+M.length≤es.length):(kX es a M).length=es.length:=by
 unfold kX;simp only[List.length_append,List.length_take,List.length_drop];omega
theorem xw {es:List Int} {a:Nat}:kX es a []=es:=by
 unfold kX;simp
theorem CV {es M:List Int} {a:Nat} {x:Int} (h:a≤es.length):(kX es a (x::M))[a]?=some x:=by
 unfold kX;rw[List.append_assoc,List.getElem?_append_right (by simp only[List.length_take];omega)];simp[Nat.min_eq_left h]
theorem xu {es M M':List Int} {a:Nat} (h:a+M.length+M'.length≤es.length):kX (kX es a M) (a+M.length) M'=kX es a (M++M'):=by
 unfold kX;have h1:(es.take a++M).length=a+M.length:=by simp only[List.length_append,List.length_take];omega
 rw[List.take_append_of_le_length (by omega),List.take_of_length_le (by omega)];rw[←h1,List.drop_append,List.drop_eq_nil_of_le (by omega),List.nil_append,h1,List.drop_drop];simp only[List.append_assoc,List.length_append]
 congr 4
 omega
theorem xv {es M:List Int} {a:Nat} {v:Int} (h:a+1+M.length≤es.length):(kX es (a+1) M).set a v=kX es a (v::M):=by
 unfold kX;have h1:(es.take a).length=a:=by simp only[List.length_take];omega
 rw[List.append_assoc,List.take_add_one,List.getElem?_eq_getElem (by omega)];simp only[Option.toList_some,List.append_assoc,List.cons_append,List.nil_append,List.length_cons];rw[List.set_append_right _ _ (by omega),h1,Nat.sub_self,List.set_cons_zero]
 congr 4
 omega
theorem Ar {l:List Nod} {d:D} (hl:l.length≤1048576) (hi:∀n∈l,n.ok) (hd:SlD d 7 (l.map aO)):∀(m:Nat) (t:Tr),t.flat.length≤m→t.ok→∀{N:Nat} {S s0:St} {H:List aN} {out:D} {es:List Int} {at_:Nat},ec l at_ t.flat→es.length=l.length→Has N S s0 (.lst out 1 (es.map aj)::H)→
  ∃r ae,Ev pv 44 [d,out,.int .i64 (at_:Nat)] s0 r ae∧r=.int .i64 ((at_+t.flat.length:Nat):Int)∧Has N S ae (.lst out 1 ((kX es at_ t.zs).map aj)::H):=by
 intro m
 induction m with
 |zero=>intro t h;have:=t.fN;omega
 |succ m ih=>
  rintro⟨n,ks⟩ hm hok N S s0 H out es at_ iq ng hH;simp only[Tr.ok] at hok;obtain⟨lS,j8⟩:=hok;simp only[Tr.flat,List.length_cons] at hm;have hle:=iq.le (by simp[Tr.flat]);simp only[Tr.flat] at iq hle;simp only[List.length_cons] at hle;have hn:=iq.head;have iq:=iq.tail;have HX:=hi n (List.mem_of_getElem? hn);have hr1:=jy hn;have Es:=ub HX;have GD:=lS.1;have lU:=aW.iZ ks;refine Ev.iB rfl MA rfl rfl rfl ?_;refine zE ?_;have bM:=hH;have hH:=hH.bO;have bL:(enterSt .rw s0).bs=s0.bs:=rfl;generalize enterSt .rw s0=S2 at*;have hc:=hd.arg N S2;refine zQ 8 ?_;refine qr fun O5 Ld=>?_;refine EvO.cq rfl (ev rfl) (by assumption) rfl (by dsimp only[Fr.put,u1,u2]<;>rfl) ?_;refine qa hH fun k7 st Ln hH=>?_;refine EvO.hstoreA hH rfl (ev rfl) (ev rfl) (by rfl) (by exact rfl) (by exact at0) (by exact rfl) (by exact .inr (by assumption)) (fun st hH=>?_);dsimp only[u2,u1,u3,u4,setMany,u5,u6,D.cells,Nat.reduceAdd,aO,aj] at hH;refine zQ 19 ?_;refine EvC.loop (fun mm fr st=>∃(i j ss:Nat) (rest:aW) (mR:List Int),fr.clean=⟨36,[d,out,.int .i64 (at_:Nat),aD fr 3,aD fr 4,aD fr 5,.int .i64 0,.ptr k7 0 0,.int .i64 (j:Nat),.int .i64 ((min ss 401:Nat):Int),aD fr 10,aD fr 11,aD fr 12,aD fr 13,aD fr 14,aD fr 15,aD fr 16,aD fr 17,.int .i64 n.kids,.int .i64 (i:Nat),aD fr 20,aD fr 21,aD fr 22,aD fr 23,aD fr 24,aD fr 25,aD fr 26,aD fr 27,aD fr 28,aD fr 29,aD fr 30,aD fr 31,aD fr 32,aD fr 33,aD fr 34,aD fr 35],[]⟩∧Has N S2 st (.lst out 1 (mR.map aj)::.box k7 (.mem 0 false (aO n))::H)∧(mm=rest.len)∧(i+rest.len=ks.len)∧(ec l j rest.flat)∧(rest.ok)∧(ss+rest.sz=ks.sz)∧(mR.length=l.length)∧(kX mR j rest.zs=kX es (at_+1) ks.zs)∧(j+rest.flat.length=at_+1+ks.flat.length)∧(rest.flat.length≤m)) (ks.len) ?_ ?_
  ·exact⟨0,at_+1,0,ks,es,rfl,(by have:=hH.front at1;exact this),rfl,by omega,iq,j8,by omega,ng,rfl,rfl,by omega⟩
  rintro mm fr st ⟨i,j,ss,rest,mR,hfr,hH,wA,zm,mL,iF,zX,wF,sI,hj,Fl⟩;rw[hfr];clear hfr;generalize aD fr=ee;clear fr;refine zQ 4 ?_
  cases rest with
  |nil=>
   simp only[aW.len] at zm;simp only[aW.sz] at zX;simp only[aW.flat,List.length_nil] at hj;simp only[aW.zs,xw] at sI;have hcc:decide ((i:Int)<n.kids)=false:=by rw[decide_eq_false_iff_not];omega
   refine qq<|qE rfl (by rw[hcc]) ?_;refine zQ 1 ?_;obtain rfl:ss=ks.sz:=by omega
   have iq:=mL;refine zQ 6 ?_;refine EvC.merge (fun fr st=>∃(tmp:List (Nat×D)),fr=⟨36,[d,out,.int .i64 (at_:Nat),aD fr 3,aD fr 4,aD fr 5,.int .i64 0,.ptr k7 0 0,.int .i64 (j:Nat),.int .i64 ((a_ n (min ks.sz 401) ks.len:Nat):Int),aD fr 10,aD fr 11,aD fr 12,aD fr 13,aD fr 14,aD fr 15,aD fr 16,aD fr 17,aD fr 18,aD fr 19,aD fr 20,aD fr 21,aD fr 22,aD fr 23,aD fr 24,aD fr 25,aD fr 26,aD fr 27,aD fr 28,aD fr 29,aD fr 30,aD fr 31,aD fr 32,aD fr 33,aD fr 34,aD fr 35],tmp⟩∧Has N S2 st (.lst out 1 (mR.map aj)::.box k7 (.mem 0 false (aO n))::H)) ?_ ?_
   ·refine zQ 7 ?_;generalize hw:min ks.sz 401=w;have Kv:w≤401:=by omega
    have gx:ks.len≤9223372036854775→True:=fun _=>trivial
    by_cases q2:n.op=2
    ·have hz:a_ n w ks.len=1:=by unfold a_;rw[if_pos (.inl q2)]
     rw[hz];refine qD rfl (by simp[q2]) ?_;refine zQ 1 ?_;refine qD rfl (by simp[q2]) ?_;refine zQ 3 ?_;exact⟨_,rfl,hH⟩
    refine qE rfl (by simp[q2]) ?_;refine zQ 5 ?_
    by_cases q7:n.op=7
    ·have hz:a_ n w ks.len=1:=by unfold a_;rw[if_pos (.inr (.inl q7))]
     rw[hz];refine qD rfl (by simp[q7]) ?_;refine zQ 1 ?_;refine qD rfl (by simp[q7]) ?_;refine zQ 3 ?_;exact⟨_,rfl,hH⟩
    refine qE rfl (by simp[q7]) ?_;refine zQ 4 ?_
    by_cases q8:n.op=8
    ·have hz:a_ n w ks.len=1:=by unfold a_;rw[if_pos (.inr (.inr q8))]
     rw[hz];refine qD rfl (by simp[q8]) ?_;refine zQ 3 ?_;exact⟨_,rfl,hH⟩
    refine qE rfl (by simp[q8]) ?_
    have hz0:a_ n w ks.len=if n.op=4 then w+2*(ks.len-1) else if n.op=6 then w+2 else if n.op=5 then(if n.mx=-1 then n.mn.toNat*w+w+2 else n.mn.toNat*w+(n.mx.toNat-n.mn.toNat)*(w+1)) else w:=by
     unfold a_;rw[if_neg (by omega)]
    rw[hz0];clear hz0;obtain⟨_,gy⟩:=lS;have hq:(n.op=1∧ks.len=0)∨((n.op=3∨n.op=4)∧2≤ks.len)∨(n.op=5∧ks.len=1∧0≤n.mn∧n.mn≤30∧(n.mx=-1∨(n.mn≤n.mx∧n.mx≤30)))∨(n.op=6∧ks.len=1∧1≤n.cap∧n.cap≤4):=by omega
    refine zQ 5 ?_
    by_cases q4:n.op=4
    ·rw[if_pos q4];have hk2:2≤ks.len:=by omega
     refine qD rfl (by simp[q4]) ?_;refine zQ 4 ?_;refine EvO.kb (z:=((ks.len-1:Nat):Int)) rfl (ev rfl) (ev rfl) (by(try simp only[List.length_reverse,List.length_cons,List.length_nil,List.length_append,List.length_map,List.length_set]);rw[wrap_i64 (by omega) (by omega)]<;>omega) (put_T rfl _) ?_;refine EvO.wa (z:=((2*(ks.len-1):Nat):Int)) rfl (ev rfl) (ev rfl) (by(try simp only[List.length_reverse,List.length_cons,List.length_nil,List.length_append,List.length_map,List.length_set]);rw[wrap_i64 (by omega) (by omega)]<;>omega) (put_T rfl _) ?_;refine EvO.gC (z:=((w+2*(ks.len-1):Nat):Int)) rfl (ev rfl) (ev rfl) (by(try simp only[List.length_reverse,List.length_cons,List.length_nil,List.length_append,List.length_map,List.length_set]);rw[wrap_i64 (by omega) (by omega)]<;>omega) (put_T rfl _) ?_;refine zQ 2 ?_;exact⟨_,rfl,hH⟩
    rw[if_neg q4];refine qE rfl (by simp[q4]) ?_;refine zQ 5 ?_
    by_cases q6:n.op=6
    ·rw[if_pos q6];refine qD rfl (by simp[q6]) ?_;refine zQ 5 ?_;exact⟨_,rfl,hH⟩
    rw[if_neg q6];refine qE rfl (by simp[q6]) ?_;refine zQ 5 ?_
    by_cases q5:n.op=5
    ·rw[if_pos q5];refine qD rfl (by simp[q5]) ?_;refine zQ 6 ?_;have z6:0≤n.mn∧n.mn≤30∧(n.mx=-1∨(n.mn≤n.mx∧n.mx≤30)):=by omega
     obtain⟨a,ha⟩:∃a:Nat,n.mn=(a:Int):=Int.eq_ofNat_of_zero_le z6.1;have Gy:n.mn.toNat=a:=by omega
     have h1:a*w≤30*401:=Nat.mul_le_mul (by omega) Kv;have hmul:n.mn*(w:Int)=((a*w:Nat):Int):=by rw[ha];push_cast;rfl
     rw[Gy]
     by_cases AD:n.mx=-1
     ·rw[if_pos AD];refine qD rfl (by simp[AD]) ?_;refine zQ 4 ?_;refine EvO.wa (z:=((a*w:Nat):Int)) rfl (ev rfl) (ev rfl) (by(try simp only[List.length_reverse,List.length_cons,List.length_nil,List.length_append,List.length_map,List.length_set]);rw[wrap_i64 (by omega) (by omega)]<;>omega) (put_T rfl _) ?_;refine qm ?_;refine EvO.gC (z:=((a*w+w:Nat):Int)) rfl (ev rfl) (ev rfl) (by(try simp only[List.length_reverse,List.length_cons,List.length_nil,List.length_append,List.length_map,List.length_set]);rw[wrap_i64 (by omega) (by omega)]<;>omega) (put_T rfl _) ?_;refine EvO.gC (z:=((a*w+w+2:Nat):Int)) rfl (ev rfl) (ev rfl) (by(try simp only[List.length_reverse,List.length_cons,List.length_nil,List.length_append,List.length_map,List.length_set]);rw[wrap_i64 (by omega) (by omega)]<;>omega) (put_T rfl _) ?_;refine zQ 2 ?_;exact⟨_,rfl,hH⟩
     ·rw[if_neg AD];obtain⟨b,hb⟩:∃b:Nat,n.mx=(b:Int):=Int.eq_ofNat_of_zero_le (by omega);have Po:n.mx.toNat=b:=by omega
      have h2:(b-a)*(w+1)≤30*402:=Nat.mul_le_mul (by omega) (by omega);rw[Po];refine qE rfl (by simp[AD]) ?_;refine zQ 4 ?_;refine EvO.wa (z:=((a*w:Nat):Int)) rfl (ev rfl) (ev rfl) (by(try simp only[List.length_reverse,List.length_cons,List.length_nil,List.length_append,List.length_map,List.length_set]);rw[wrap_i64 (by omega) (by omega)]<;>omega) (put_T rfl _) ?_;refine zQ 4 ?_;refine EvO.kb (z:=((b-a:Nat):Int)) rfl (ev rfl) (ev rfl) (by(try simp only[List.length_reverse,List.length_cons,List.length_nil,List.length_append,List.length_map,List.length_set]);rw[wrap_i64 (by omega) (by omega)]<;>omega) (put_T rfl _) ?_;refine qm ?_;refine EvO.gC (z:=((w+1:Nat):Int)) rfl (ev rfl) (ev rfl) (by(try simp only[List.length_reverse,List.length_cons,List.length_nil,List.length_append,List.length_map,List.length_set]);rw[wrap_i64 (by omega) (by omega)]<;>omega) (put_T rfl _) ?_;refine EvO.wa (z:=(((b-a)*(w+1):Nat):Int)) rfl (ev rfl) (ev rfl) (by(try simp only[List.length_reverse,List.length_cons,List.length_nil,List.length_append,List.length_map,List.length_set]);rw[wrap_i64 (by omega) (by omega)]<;>omega) (put_T rfl _) ?_;refine EvO.gC (z:=((a*w+(b-a)*(w+1):Nat):Int)) rfl (ev rfl) (ev rfl) (by(try simp only[List.length_reverse,List.length_cons,List.length_nil,List.length_append,List.length_map,List.length_set]);rw[wrap_i64 (by omega) (by omega)]<;>omega) (put_T rfl _) ?_;refine zQ 2 ?_;exact⟨_,rfl,hH⟩
    ·rw[if_neg q5];refine qE rfl (by simp[q5]) ?_;refine zQ 1 ?_;exact⟨_,rfl,hH⟩
   ·rintro fr st ⟨tmp,hfr,hH⟩;rw[hfr];clear hfr;generalize aD fr=ee;clear fr;have jH:=D9 (n:=n) (k:=ks.len) (s:=ks.sz);have gf:at_<mR.length:=by omega
    obtain⟨w,hw⟩:∃w,mR[at_]?=some w:=⟨mR[at_]'gf,List.getElem?_eq_getElem _⟩
    have PC:=dI hw;refine zQ 5 ?_;refine EvO.Hb (z:=((min (a_ n ks.sz ks.len) 401:Nat):Int)) (t1:=_) (t2:=_) rfl (ev rfl) (ev rfl) (by omega) (put_T rfl _) ?_;refine qi hH at0 fun OO KY=>?_;refine EvO.jR hH rfl (ev rfl) (ev rfl) (by assumption) rfl rfl (by exact at0) (by assumption) (Nat.le_of_ble_eq_true rfl) (by exact .inr rfl) (fun st hH=>?_);dsimp only[u2,u1,u3,u4,setMany,u5,u6,D.cells,Nat.reduceAdd,aO,aj] at hH;refine zQ 6 ?_;refine EvC.ret ⟨rx,_,_,_,rfl,af (rfl),?_⟩;have Lu:j=at_+(Tr.mk n ks).flat.length:=by simp only[Tr.flat,List.length_cons];omega
    refine⟨by rw[Lu];rfl,?_⟩
    have eO:kX es at_ (Tr.zs (.mk n ks))=mR.set at_ ((min (a_ n ks.sz ks.len) 401:Nat):Int):=by
     rw[sI,xv (by rw[aW.gp];omega)];rfl
    rw[eO,List.map_set];exact bM.ux bL (hH.erase 1)
  |cons t ts=>
   simp only[aW.len] at zm wA;simp only[aW.sz] at zX;simp only[aW.flat,List.length_append] at hj mL Fl;simp only[aW.zs] at sI;simp only[aW.ok] at iF;have hcc:decide ((i:Int)<n.kids)=true:=by rw[decide_eq_true_eq];omega
   have KB:=t.fN;have Fa:=t.gp;have Hk:=ts.gp;have FP:(kX mR j t.zs).length=l.length:=by rw[xx (by omega)];exact wF
   have O_:(kX mR j t.zs)[j]?=some ((min t.sz 401:Nat):Int):=by
    obtain⟨n',Hh⟩:=t;simp only[Tr.zs,Tr.sz];exact CV (by omega)
   have PD:=dI O_;refine qq<|qD rfl (by rw[hcc]) ?_;refine zQ 13 ?_;obtain⟨_,st,hev,rfl,hH⟩:=ih t (by omega) iF.1 mL.left wF hH;refine qv hev ?_;refine zQ 6 ?_;refine qi hH at0 fun O1 K'=>?_;refine zQ 1 ?_;refine EvO.gC (z:=((min ss 401+min t.sz 401:Nat):Int)) rfl (ev rfl) (ev rfl) (by(try simp only[List.length_reverse,List.length_cons,List.length_nil,List.length_append,List.length_map,List.length_set]);rw[wrap_i64 (by omega) (by omega)]<;>omega) (by dsimp only[Fr.put,u1,u2]<;>rfl) ?_;refine EvO.Hb (z:=((min (ss+t.sz) 401:Nat):Int)) (t1:=_) (t2:=_) rfl (ev rfl) (ev rfl) (by omega) (by dsimp only[Fr.put,u1,u2]<;>rfl) ?_;refine zQ 6 ?_;exact⟨mm-1,by omega,⟨i+1,j+t.flat.length,ss+t.sz,ts,kX mR j t.zs,rfl,hH,by omega,by omega,mL.right,iF.2,by omega,FP,by rw[←sI];have:=xu (es:=mR) (a:=j) (M:=t.zs) (M':=ts.zs) (by omega);rw[Fa] at this;exact this,by omega,by omega⟩⟩
theorem D1 {l:List Nod} {d:D} (hl:l.length≤1048576) (hi:∀n∈l,n.ok) (hd:SlD d 7 (l.map aO)):∀(m:Nat) (t:Tr),t.flat.length≤m→t.ok→∀{N:Nat} {S s0:St} {H:List aN} {out:D} {es:List Int} {at_:Nat},ec l at_ t.flat→es.length=l.length→Has N S s0 (.lst out 1 (es.map aj)::H)→
  ∃r ae,Ev pv 45 [d,out,.int .i64 (at_:Nat)] s0 r ae∧r=.int .i64 ((at_+t.flat.length:Nat):Int)∧Has N S ae (.lst out 1 ((kX es at_ (t.es at_)).map aj)::H):=by
 intro m
 induction m with
 |zero=>intro t h;have:=t.fN;omega
 |succ m ih=>
  rintro⟨n,ks⟩ hm hok N S s0 H out es at_ iq ng hH;simp only[Tr.ok] at hok;obtain⟨lS,j8⟩:=hok;simp only[Tr.flat,List.length_cons] at hm;have hle:=iq.le (by simp[Tr.flat]);simp only[Tr.flat] at iq hle;simp only[List.length_cons] at hle;have hn:=iq.head;have iq:=iq.tail;have HX:=hi n (List.mem_of_getElem? hn);have hr1:=jy hn;have GD:=lS.1;have lU:=aW.iZ ks;refine Ev.iB rfl Mz rfl rfl rfl ?_;refine zE ?_;have bM:=hH;have hH:=hH.bO;have bL:(enterSt .rw s0).bs=s0.bs:=rfl;generalize enterSt .rw s0=S2 at*;have hc:=hd.arg N S2;refine zQ 15 ?_;refine qr fun Nq HQ=>?_;refine qf (fo:=6) fun O5 Ld=>?_;refine zQ 4 ?_;refine EvC.loop (fun mm fr st=>∃(i j:Nat) (rest:aW) (mR:List Int),fr.clean=⟨16,[d,out,.int .i64 (at_:Nat),aD fr 3,aD fr 4,aD fr 5,.int .i64 0,.int .i64 (j:Nat),aD fr 8,aD fr 9,aD fr 10,aD fr 11,aD fr 12,aD fr 13,.int .i64 n.kids,.int .i64 (i:Nat)],[]⟩∧Has N S2 st (.lst out 1 (mR.map aj)::H)∧(mm=rest.len)∧(i+rest.len=ks.len)∧(ec l j rest.flat)∧(rest.ok)∧(mR.length=l.length)∧(kX mR j (rest.es j)=kX es (at_+1) (ks.es (at_+1)))∧(j+rest.flat.length=at_+1+ks.flat.length)∧(rest.flat.length≤m)) (ks.len) ?_ ?_
  ·exact⟨0,at_+1,ks,es,rfl,hH,rfl,by omega,iq,j8,ng,rfl,rfl,by omega⟩
  rintro mm fr st ⟨i,j,rest,mR,hfr,hH,wA,zm,mL,iF,wF,sI,hj,Fl⟩;rw[hfr];clear hfr;generalize aD fr=ee;clear fr;refine zQ 4 ?_
  cases rest with
  |nil=>
   simp only[aW.len] at zm;simp only[aW.flat,List.length_nil] at hj;simp only[aW.es,xw] at sI;have hcc:decide ((i:Int)<n.kids)=false:=by rw[decide_eq_false_iff_not];omega
   have gf:at_<mR.length:=by omega
   obtain⟨w,hw⟩:∃w,mR[at_]?=some w:=⟨mR[at_]'gf,List.getElem?_eq_getElem _⟩
   have PC:=dI hw;refine qq<|qE rfl (by rw[hcc]) ?_;refine zQ 6 ?_;refine qi hH at0 fun Gu zj=>?_;refine EvO.jR hH rfl (ev rfl) (ev rfl) (by assumption) rfl rfl (by exact at0) (by assumption) (Nat.le_of_ble_eq_true rfl) (by exact .inr rfl) (fun st hH=>?_);dsimp only[u2,u1,u3,u4,setMany,u5,u6,D.cells,Nat.reduceAdd,aO,aj] at hH;refine zQ 6 ?_;refine EvC.ret ⟨rx,_,_,_,rfl,af (rfl),?_⟩;have Lu:j=at_+(Tr.mk n ks).flat.length:=by simp only[Tr.flat,List.length_cons];omega
   refine⟨by rw[Lu];rfl,?_⟩
   have eO:kX es at_ (Tr.es (.mk n ks) at_)=mR.set at_ ((j:Nat):Int):=by
    rw[sI,xv (by rw[aW.gA];omega)];have:j=at_+1+ks.flat.length:=by omega
    rw[this];rfl
   rw[eO,List.map_set];exact bM.ux bL hH
  |cons t ts=>
   simp only[aW.len] at zm wA;simp only[aW.flat,List.length_append] at hj mL Fl;simp only[aW.es] at sI;simp only[aW.ok] at iF;have hcc:decide ((i:Int)<n.kids)=true:=by rw[decide_eq_true_eq];omega
   have KB:=t.fN;have Fa:=t.gA j;have Hk:=ts.gA (j+t.flat.length);have FP:(kX mR j (t.es j)).length=l.length:=by rw[xx (by omega)];exact wF
   refine qq<|qD rfl (by rw[hcc]) ?_;refine zQ 7 ?_;obtain⟨_,st,hev,rfl,hH⟩:=ih t (by omega) iF.1 mL.left wF hH;refine qv hev ?_;refine zQ 6 ?_;exact⟨mm-1,by omega,⟨i+1,j+t.flat.length,ts,kX mR j (t.es j),rfl,hH,by omega,by omega,mL.right,iF.2,FP,by rw[←sI];have:=xu (es:=mR) (a:=j) (M:=t.es j) (M':=ts.es (j+t.flat.length)) (by omega);rw[Fa] at this;exact this,by omega,by omega⟩⟩
theorem eQ {N k:Nat} {S s0:St} {H:List aN} {ks:Nat→Prop} {cd nd zd ed w:D} {code:List az} {op x y:Int} {rs:List Rg} (hF:S.flr≤N) (hl:code.length≤1048576) (hH:Has N S s0 (.lst w 2 (rs.map ai)::.box k (.mem 0 false [cd,nd,zd,ed])::.deep ks cd 4 (code.map aA)::H)):
  ∃r ae,Ev pv 46 [.ptr k 0 0,.agg [.int .i64 op,.int .i64 x,.int .i64 y,w]] s0 r ae∧r=.int .i64 (code.length:Nat)∧∃Og Hh,Has N S ae (.box k (.mem 0 false [Og,nd,zd,ed])::.deep Hh Og 4 ((code++[cg op x y rs]).map aA)::H):=by
 refine Ev.iB rfl My rfl rfl rfl ?_;refine zE ?_;change EvC _ _ _ _ s0 _;refine zQ 2 ?_;refine qb hH fun k3 st FK hH=>?_;refine zQ 9 ?_;refine EvO.hloadS (m:=4) hH rfl (ev rfl) (by exact at0) (by dsimp only[List.drop_succ_cons,List.drop_zero,List.take_succ_cons,List.take_zero,aA]<;>rfl) rfl rfl (put_T rfl _) ?_;refine qh (s:=4) (vs:=[_]) hH fun k11 st hk11 hH=>?_;obtain⟨hH,LM⟩:=hH.Cp (i:=2) (j:=4) (by decide) at2 at4 (c9 _);dsimp only[u1,u2] at hH;refine EvO.ni hH rfl (ev rfl) (ev rfl) at4 (hH.rows at0) (.cons (.cons (.plain _ rfl) (.cons (.plain _ rfl) (.cons (.plain _ rfl) (.cons LM .nil)))) .nil) rfl rfl rfl rfl rfl rfl rfl ⟨(Nat.le_of_ble_eq_true rfl),(Nat.le_of_ble_eq_true rfl)⟩ (fun _=>(put_T rfl _)) (by simp only[List.length_map,List.length_cons,List.length_nil];omega) (.inl hF) (fun R7 st hH=>?_);dsimp only[u1,u2] at hH;refine zQ 2 ?_;refine EvO.oB hH rfl (ev rfl) (ev rfl) (by exact hH.dcells (by exact at4)) (by exact rfl) (by exact at3) (by exact Nat.le_of_ble_eq_true rfl) (by exact .inl hF) (fun st hH=>?_);dsimp only[u2,u1,u3,u4,setMany,u5,u6,D.cells,Nat.reduceAdd,aA] at hH;refine zQ 7 ?_;refine EvO.zD hH rfl (ev rfl) (by exact at4) rfl (put_T rfl _) ?_;simp only[List.length_map,List.length_append,List.length_cons,List.length_nil];refine EvO.kb (z:=((code.length:Nat):Int)) rfl (ev rfl) (ev rfl) (by(try simp only[List.length_reverse,List.length_cons,List.length_nil,List.length_append,List.length_map,List.length_set]);rw[wrap_i64 (by omega) (by omega)]<;>omega) (put_T rfl _) ?_;refine zQ 2 ?_;refine EvC.ret ⟨rx,_,_,_,rfl,rfl,?_⟩;exact⟨rfl,_,_,by rw[List.map_append];exact hH.drop 3⟩
theorem nB {N k:Nat} {S s0:St} {H:List aN} {ks:Nat→Prop} {cd nd zd ed:D} {code:List az} {at_ over:Nat} {lz:Bool} {x y:Int} (gf:code[at_]?=some (cg 2 x y [])) (hl:code.length≤1048576) (hH:Has N S s0 (.box k (.mem 0 false [cd,nd,zd,ed])::.deep ks cd 4 (code.map aA)::H)):
  ∃r ae,Ev pv 114 [.ptr k 0 0,.int .i64 (at_:Nat),.int .i64 (over:Nat),.bool lz] s0 r ae∧r=.tup []∧Has N S ae (.box k (.mem 0 false [cd,nd,zd,ed])::.deep ks cd 4 ((code.set at_ (lj at_ over lz)).map aA)::H):=by
 have hlt:=lt_get gf;have hr1:(code.map aA)[at_]?=some [.int .i64 2,.int .i64 x,.int .i64 y,.sl []]:=ft gf;have eO:∀a b:List D,(code.map aA).set at_ a=(code.map aA).set at_ a:=fun _ _=>rfl;refine Ev.iB rfl Jb rfl rfl rfl ?_;refine zE ?_;have bM:=hH;have hH:=hH.bO;have bL:(enterSt .rw s0).bs=s0.bs:=rfl;generalize enterSt .rw s0=S2 at*;refine zQ 13 ?_;refine EvO.gC (z:=((at_+1:Nat):Int)) rfl (ev rfl) (ev rfl) (by(try simp only[List.length_reverse,List.length_cons,List.length_nil,List.length_append,List.length_map,List.length_set]);rw[wrap_i64 (by omega) (by omega)]<;>omega) (put_T rfl _) ?_;refine qm ?_;refine EvO.B6 (s:=4) hH rfl (ev rfl) (ev rfl) (by exact at1) rfl rfl (by exact lt_get (by assumption)) (fun _=>(put_T rfl _)) (fun J4 Fx=>?_);refine EvO.cS (fo:=1) (m:=0) (o2:=1) rfl (ev rfl) (by assumption) rfl rfl rfl (fun _=>(put_T rfl _)) (fun J3 Fw=>?_);refine EvO.oT hH rfl (ev rfl) (ev rfl) (by assumption) rfl rfl (by exact at1) (by assumption) (Nat.le_of_ble_eq_true rfl) (by intro d hd;simp only[List.mem_cons,List.not_mem_nil,or_false] at hd;subst hd;rfl) (by exact .inr rfl) (fun st hH=>?_);dsimp only[u2,u1,u3,u4,setMany,u5,u6,D.cells,Nat.reduceAdd,aA] at hH;refine EvO.B6 (s:=4) hH rfl (ev rfl) (ev rfl) (by exact at1) rfl rfl (by simp only[List.length_map,List.length_set]<;>omega) (fun _=>(put_T rfl _)) (fun J2 Fv=>?_);refine EvO.cS (fo:=2) (m:=0) (o2:=2) rfl (ev rfl) (by assumption) rfl rfl rfl (fun _=>(put_T rfl _)) (fun Gv zk=>?_);refine EvO.oT hH rfl (ev rfl) (ev rfl) (by assumption) rfl rfl (by exact at1) (List.getElem?_set_self (by simp only[List.length_set,List.length_map];omega)) (Nat.le_of_ble_eq_true rfl) (by intro d hd;simp only[List.mem_cons,List.not_mem_nil,or_false] at hd;subst hd;rfl) (by exact .inr rfl) (fun st hH=>?_);dsimp only[u1,u2,setMany] at hH;rw[List.set_set] at hH;refine zQ 5 ?_
 cases lz with
 |false=>
  refine zQ 2 ?_;refine⟨fun i h=>(by cases h),_,_,_,rfl,af rfl,?_⟩;exact⟨rfl,by rw[List.map_set];exact bM.uy bL hH⟩
 |true=>
  refine zQ 14 ?_;refine EvO.gC (z:=((at_+1:Nat):Int)) rfl (ev rfl) (ev rfl) (by(try simp only[List.length_reverse,List.length_cons,List.length_nil,List.length_append,List.length_map,List.length_set]);rw[wrap_i64 (by omega) (by omega)]<;>omega) (put_T rfl _) ?_;refine EvO.B6 (s:=4) hH rfl (ev rfl) (ev rfl) (by exact at1) rfl rfl (by simp only[List.length_map,List.length_set]<;>omega) (fun _=>(put_T rfl _)) (fun OX K7=>?_);refine EvO.cS (fo:=1) (m:=0) (o2:=1) rfl (ev rfl) (by assumption) rfl rfl rfl (fun _=>(put_T rfl _)) (fun OW K6=>?_);refine EvO.oT hH rfl (ev rfl) (ev rfl) (by assumption) rfl rfl (by exact at1) (List.getElem?_set_self (by simp only[List.length_set,List.length_map];omega)) (Nat.le_of_ble_eq_true rfl) (by intro d hd;simp only[List.mem_cons,List.not_mem_nil,or_false] at hd;subst hd;rfl) (by exact .inr rfl) (fun st hH=>?_);dsimp only[u1,u2,setMany] at hH;rw[List.set_set] at hH;refine EvO.B6 (s:=4) hH rfl (ev rfl) (ev rfl) (by exact at1) rfl rfl (by simp only[List.length_map,List.length_set]<;>omega) (fun _=>(put_T rfl _)) (fun Sv P3=>?_);refine EvO.cS (fo:=2) (m:=0) (o2:=2) rfl (ev rfl) (by assumption) rfl rfl rfl (fun _=>(put_T rfl _)) (fun OV K5=>?_);refine EvO.oT hH rfl (ev rfl) (ev rfl) (by assumption) rfl rfl (by exact at1) (List.getElem?_set_self (by simp only[List.length_set,List.length_map];omega)) (Nat.le_of_ble_eq_true rfl) (by intro d hd;simp only[List.mem_cons,List.not_mem_nil,or_false] at hd;subst hd;rfl) (by exact .inr rfl) (fun st hH=>?_);dsimp only[u1,u2,setMany] at hH;rw[List.set_set] at hH;refine zQ 1 ?_;refine⟨fun i h=>(by cases h),_,_,_,rfl,af rfl,?_⟩;exact⟨rfl,by rw[List.map_set];exact bM.uy bL hH⟩
def ah (fr:Go.V.Fr) (k:Nat):Go.V.D:=Go.V.nth .junk fr.loc k
def iU (n:Nat):List D:=[.int .i64 (n:Nat)]
theorem uf {l:List Nat} {i q:Nat} (h:l[i]?=some q):(l.map iU)[i]?=some (iU q):=by rw[List.getElem?_map,h];rfl
def GM (N:Nat) (S st:St) (k:Nat) (nd zd ed:D) (Z E:List Int) (H:List aN) (code:List az):Prop:=
 ∃cd ks,Has N S st (.box k (.mem 0 false [cd,nd,zd,ed])::.deep ks cd 4 (code.map aA)::.lst zd 1 (Z.map aj)::.lst ed 1 (E.map aj)::H)
def pa (l:List Nod) (t:Tr):Prop:=∀{N k:Nat} {S s0:St} {H:List aN} {nd zd ed:D} {code:List az} {Z E:List Int} {at_:Nat},S.flr≤N→SlD nd 7 (l.map aO)→ec l at_ t.flat→ec Z at_ t.zs→ec E at_ (t.es at_)→t.ok→code.length+t.sz≤1000000→GM N S s0 k nd zd ed Z E H code→
 ∃r ae,Ev pv 47 [.ptr k 0 0,.int .i64 (at_:Nat)] s0 r ae∧r=.tup []∧GM N S ae k nd zd ed Z E H (code++aE t code.length)
theorem yk {E:List Int} {t:Tr} {a:Nat} (h:ec E a (t.es a)):E[a]?=some ((a+t.flat.length:Nat):Int):=by
 obtain⟨n,ks⟩:=t;simp only[Tr.es] at h;rw[h.head];simp only[Tr.flat,List.length_cons]
 congr 2;omega
theorem xl {Z:List Int} {t:Tr} {a:Nat} (h:ec Z a t.zs):Z[a]?=some ((min t.sz 401:Nat):Int):=by
 obtain⟨n,ks⟩:=t;simp only[Tr.zs] at h;rw[h.head];rfl
theorem Gj {l:List Nod} (hll:l.length≤1048576) {m:Nat} (ih:∀t:Tr,t.flat.length≤m→pa l t) {n:Nod} {ks:aW} (eB:n.op=4) (Lm:ks.flat.length≤m) (lS:uc n ks.len) (j8:ks.ok) {N k:Nat} {S s0:St} {H:List aN} {nd zd ed:D} {code:List az} {Z E:List Int} {at_:Nat} (hF:S.flr≤N) (hnd:SlD nd 7 (l.map aO)) (il:ec l at_ (n::ks.flat)) (hsz:ec Z (at_+1) ks.zs) (te:ec E (at_+1) (ks.es (at_+1))) (hb:code.length+a_ n ks.sz ks.len≤1000000) (hM:GM N S s0 k nd zd ed Z E H code):
  ∃r ae,Ev pv 89 [.ptr k 0 0,.int .i64 (at_:Nat)] s0 r ae∧r=.tup []∧GM N S ae k nd zd ed Z E H (code++di (kz (code.length+a_ n ks.sz ks.len)) ks code.length):=by
 obtain⟨cd,dk,hH⟩:=hM;have hle:=il.le (by simp);simp only[List.length_cons] at hle;have hn:=il.head;have il:=il.tail;have hr1:=jy hn;have GD:=lS.1;have gx:=aW.iZ ks
 have hk2:2≤ks.len:=by
  obtain⟨_,hq⟩:=lS;omega
 have DH:a_ n ks.sz ks.len=ks.sz+2*(ks.len-1):=by unfold a_;rw[if_neg (by omega),if_pos eB]
 rw[DH] at hb⊢;clear DH;refine Ev.iB rfl Mm rfl rfl rfl ?_;refine zE ?_;change EvC _ _ _ _ s0 _;have hc:=hnd.arg N S;refine zQ 18 ?_;refine qr fun O3 Lb=>?_;refine qf (fo:=6) fun Np HG=>?_;refine zQ 3 ?_;have hH:Has N S s0 (.box k (.mem 0 false [cd,nd,zd,ed])::.deep dk cd 4 (code.map aA)::.lst zd 1 (Z.map aj)::.lst ed 1 (E.map aj)::.lst .nul 1 (([]:List Nat).map iU)::H):=(hH.nulE 1).C3;refine zQ 1 ?_;refine EvC.loop (fun mm fr st=>∃(i j:Nat) (rest:aW) (cd jd:D) (dk:Nat→Prop) (aH:List az) (js:List Nat),fr.clean=⟨68,[.ptr k 0 0,.int .i64 (at_:Nat),ah fr 2,ah fr 3,jd,.int .i64 (j:Nat),ah fr 6,ah fr 7,ah fr 8,ah fr 9,ah fr 10,ah fr 11,ah fr 12,ah fr 13,ah fr 14,ah fr 15,ah fr 16,ah fr 17,ah fr 18,.int .i64 n.kids,.int .i64 (i:Nat),ah fr 21,ah fr 22,ah fr 23,ah fr 24,ah fr 25,ah fr 26,ah fr 27,ah fr 28,ah fr 29,ah fr 30,ah fr 31,ah fr 32,ah fr 33,ah fr 34,ah fr 35,ah fr 36,ah fr 37,ah fr 38,ah fr 39,ah fr 40,ah fr 41,ah fr 42,ah fr 43,ah fr 44,ah fr 45,ah fr 46,ah fr 47,ah fr 48,ah fr 49,ah fr 50,ah fr 51,ah fr 52,ah fr 53,ah fr 54,ah fr 55,ah fr 56,ah fr 57,ah fr 58,ah fr 59,ah fr 60,ah fr 61,ah fr 62,ah fr 63,ah fr 64,ah fr 65,ah fr 66,ah fr 67],[]⟩∧Has N S st (.box k (.mem 0 false [cd,nd,zd,ed])::.deep dk cd 4 (aH.map aA)::.lst zd 1 (Z.map aj)::.lst ed 1 (E.map aj)::.lst jd 1 (js.map iU)::H)∧(mm=rest.len)∧(i+rest.len=ks.len)∧(0<rest.len)∧(ec l j rest.flat)∧(ec Z j rest.zs)∧(ec E j (rest.es j))∧(rest.ok)∧(aH++di (kz 0) rest aH.length=code++di (kz 0) ks code.length)∧(js++o7 rest aH.length=o7 ks code.length)∧(aH.length+(rest.sz+2*(rest.len-1))=code.length+(ks.sz+2*(ks.len-1)))∧(rest.flat.length≤m)∧(js.length≤i)) (ks.len) ?_ ?_
 ·exact⟨0,at_+1,ks,cd,.nul,dk,code,[],rfl,hH,rfl,by omega,by omega,il,hsz,te,j8,rfl,rfl,rfl,Lm,by simp⟩
 rintro mm fr st ⟨i,j,rest,cd,jd,dk,aH,js,hfr,hH,wA,zm,JB,mL,uD,mK,iF,fM,hjs,hcl,Fl,iK⟩;rw[hfr];clear hfr;generalize ah fr=ee;clear fr;refine zQ 4 ?_
 cases rest with
 |nil=>simp[aW.len] at JB
 |cons t ts=>
  simp only[aW.len] at zm wA hcl;simp only[aW.sz] at hcl;simp only[aW.flat,List.length_append] at mL Fl;simp only[aW.zs] at uD;simp only[aW.es] at mK;simp only[aW.ok] at iF;have Fa:=t.gp;have Hr:=t.gA j;have zg:=bK t (aH.length+1) iF.1;have KQ:=dI (yk mK.left);have hcc:decide ((i:Int)<n.kids)=true:=by rw[decide_eq_true_eq];omega
  refine qq<|qD rfl (by rw[hcc]) ?_;refine zQ 17 ?_;refine qr fun O1 K'=>?_;refine qf (fo:=6) fun Nn HF=>?_;refine qR ?_;refine EvO.kb (z:=((ks.len-1:Nat):Int)) rfl (ev rfl) (ev rfl) (by(try simp only[List.length_reverse,List.length_cons,List.length_nil,List.length_append,List.length_map,List.length_set]);rw[wrap_i64 (by omega) (by omega)]<;>omega) (by dsimp only[Fr.put,u1,u2]<;>rfl) ?_;refine zQ 2 ?_
  by_cases x7:ts.len=0
  ·simp only[di,o7,if_pos x7,List.append_nil] at fM hjs;have Pm:=aW.len_nil x7;subst Pm;simp only[aW.sz,aW.len] at hcl zm;have FT:(((i:Nat):Int)==((ks.len-1:Nat):Int))=true:=by rw[beq_iff_eq];omega
   refine qD rfl (by rw[FT]) ?_;refine zQ 4 ?_;obtain⟨_,st,hev,rfl,cd,dk,hH⟩:=ih t (by omega) hF hnd mL.left uD.left mK.left iF.1 (by omega) ⟨cd,dk,hH⟩;refine qv hev ?_;refine zQ 5 ?_;refine qn ?_ (hR:=hH.rows at4);simp only[List.length_map];refine zQ 2 ?_;rw[fM] at hH;have hal:=o6 (kz 0) ks code.length j8;obtain⟨DF,zZ⟩:=l5 (jp:=kz (code.length+(ks.sz+2*(ks.len-1)))) (i0:=kz 0) ks code.length code [] j8 rfl;simp only[List.append_nil] at DF zZ;have L_:(code++di (kz 0) ks code.length).length=code.length+(ks.sz+2*(ks.len-1)):=by rw[List.length_append,hal]
   rw[←hjs] at DF zZ;rw[←DF];clear DF fM;generalize code++di (kz 0) ks code.length=C0 at*;generalize code.length+(ks.sz+2*(ks.len-1))=e at*;refine zQ 1 ?_;refine EvC.loop (fun mm fr st=>∃(q:Nat) (C:List az),fr.clean=⟨68,[.ptr k 0 0,ah fr 1,ah fr 2,ah fr 3,ah fr 4,ah fr 5,ah fr 6,ah fr 7,ah fr 8,ah fr 9,ah fr 10,ah fr 11,ah fr 12,ah fr 13,ah fr 14,ah fr 15,ah fr 16,ah fr 17,ah fr 18,ah fr 19,ah fr 20,ah fr 21,ah fr 22,ah fr 23,ah fr 24,ah fr 25,ah fr 26,ah fr 27,ah fr 28,ah fr 29,ah fr 30,ah fr 31,ah fr 32,ah fr 33,ah fr 34,ah fr 35,ah fr 36,ah fr 37,ah fr 38,ah fr 39,ah fr 40,ah fr 41,ah fr 42,ah fr 43,ah fr 44,ah fr 45,ah fr 46,ah fr 47,ah fr 48,ah fr 49,ah fr 50,ah fr 51,ah fr 52,ah fr 53,ah fr 54,ah fr 55,ah fr 56,ah fr 57,ah fr 58,ah fr 59,ah fr 60,ah fr 61,ah fr 62,ah fr 63,ah fr 64,jd,.int .i64 (js.length:Nat),.int .i64 (q:Nat)],[]⟩∧Has N S st (.box k (.mem 0 false [cd,nd,zd,ed])::.deep dk cd 4 (C.map aA)::.lst zd 1 (Z.map aj)::.lst ed 1 (E.map aj)::.lst jd 1 (js.map iU)::H)∧(q+mm=js.length)∧(fF (fun _=>kz e) C (js.drop q)=fF (fun _=>kz e) C0 js)∧(∀p∈js,∃v:Int,C[p]?=some (cg 3 v 0 []))∧(C.length=e)) (js.length) ?_ ?_
   ·exact⟨0,C0,rfl,hH,by omega,rfl,fun p hp=>⟨_,zZ p hp⟩,L_⟩
   rintro mm fr st ⟨q,C,hfr,hH,hq,fW,kE,GK⟩;rw[hfr];clear hfr;generalize ah fr=ee;clear fr;refine zQ 5 ?_;refine zP (fun hlt=>?_) fun hlt=>?_
   ·refine zQ 1 ?_;have DC:q<js.length:=by omega
    obtain⟨p,hp⟩:∃p,js[q]?=some p:=⟨js[q]'DC,List.getElem?_eq_getElem _⟩
    obtain⟨v,hv⟩:=kE p (List.mem_of_getElem? hp);have hr1:=uf hp;have mN:=ft hv;have hpl:=lt_get hv;refine zQ 4 ?_;refine qi hH at4 fun Sh PQ=>?_;refine zQ 13 ?_;refine EvO.zD hH rfl (ev rfl) (by exact at1) rfl (put_T rfl _) ?_;simp only[List.length_map];refine EvO.B6 (s:=4) hH rfl (ev rfl) (ev rfl) (by exact at1) rfl rfl (by exact lt_get (by assumption)) (fun _=>(put_T rfl _)) (fun OO KY=>?_);refine EvO.cS (fo:=1) (m:=0) (o2:=1) rfl (ev rfl) (by assumption) rfl rfl rfl (fun _=>(put_T rfl _)) (fun Se PM=>?_);refine EvO.oT hH rfl (ev rfl) (ev rfl) (by assumption) rfl rfl (by exact at1) (by assumption) (Nat.le_of_ble_eq_true rfl) (by intro d hd;simp only[List.mem_cons,List.not_mem_nil,or_false] at hd;subst hd;rfl) (by exact .inl hF) (fun st hH=>?_);dsimp only[u2,u1,u3,u4,setMany,u5,u6,D.cells,Nat.reduceAdd,aA,aO,aj,iU] at hH;refine zQ 5 ?_
    have wG:js.drop q=p::js.drop (q+1):=by
     rw[List.drop_eq_getElem_cons DC]
     congr 1
     exact Option.some.inj ((List.getElem?_eq_getElem _).symm.trans hp)
    refine⟨mm-1,by omega,⟨q+1,C.set p (kz e),rfl,(by rw[List.map_set,←GK];exact hH),by omega,by rw[wG] at fW;exact fW,?_,by rw[List.length_set];exact GK⟩⟩;intro p' sK
    by_cases hpp:p'=p
    ·subst hpp;exact⟨_,List.getElem?_set_self hpl⟩
    ·rw[List.getElem?_set_ne (fun e=>hpp e.symm)];exact kE p' sK
   ·refine zQ 1 ?_;refine⟨fun i h=>(by cases h),_,_,_,rfl,rfl,?_⟩;have Bq:q=js.length:=by omega
    rw[Bq,List.drop_length] at fW;have fW:C=fF (fun _=>kz e) C0 js:=fW;rw[←fW];exact⟨rfl,cd,dk,hH.erase 4⟩
  ·simp only[di,o7,if_neg x7] at fM hjs;have FT:(((i:Nat):Int)==((ks.len-1:Nat):Int))=false:=by rw[beq_eq_false_iff_ne];omega
   refine qE rfl (by rw[FT]) ?_;refine zQ 4 ?_;refine EvO.go (d:=.agg [.int .i64 2,.int .i64 0,.int .i64 0,.nul]) (st1:=_) rfl rfl rfl (by dsimp only[Fr.put,u1,u2]<;>rfl) ?_;have hH:=hH.nulE 2;obtain⟨_,st,hev,rfl,cd,dk,hH⟩:=eQ (rs:=[]) hF (by omega) hH;refine qv hev ?_;refine zQ 2 ?_;have kD:(aH++[cg 2 0 0 []]).length=aH.length+1:=by simp
   refine zQ 4 ?_;obtain⟨_,st,hev,rfl,cd,dk,hH⟩:=ih t (by omega) hF hnd mL.left uD.left mK.left iF.1 (by omega) ⟨cd,dk,hH⟩;refine qv hev ?_;refine zQ 1 ?_;rw[kD] at hH;have lV:(aH++[cg 2 0 0 []]++aE t (aH.length+1)).length=aH.length+1+t.sz:=by rw[List.length_append,kD,zg]
   refine zQ 4 ?_;refine EvO.go (d:=.agg [.int .i64 3,.int .i64 0,.int .i64 0,.nul]) (st1:=_) rfl rfl rfl (by dsimp only[Fr.put,u1,u2]<;>rfl) ?_;have hH:=hH.nulE 2;obtain⟨_,st,hev,rfl,cd,dk,hH⟩:=eQ (rs:=[]) hF (by omega) hH;refine qv hev ?_;refine qh (s:=1) (vs:=[_]) hH fun k47 st Qx hH=>?_;refine qP hH at5 (hH.rows at0) fun JQ st hH=>?_;dsimp only[u2,u1,u3,u4,setMany,u5,u6,D.cells,Nat.reduceAdd,aA,aO,aj,iU] at hH;refine zQ 2 ?_;have hH:=hH.drop 1
   have FW:(aH++[cg 2 0 0 []]++aE t (aH.length+1)++[cg 3 0 0 []])[aH.length]?=some (cg 2 0 0 []):=by
    rw[List.append_assoc,List.append_assoc];exact nh _ _ _
   have BJ:(aH++[cg 2 0 0 []]++aE t (aH.length+1)++[cg 3 0 0 []]).length=aH.length+1+t.sz+1:=by rw[List.length_append,lV];rfl
   have Dw:(aH++[cg 2 0 0 []]++aE t (aH.length+1)++[cg 3 0 0 []]).set aH.length (lj aH.length (aH.length+1+t.sz+1) false)=aH++(lj aH.length (aH.length+1+t.sz+1) false::(aE t (aH.length+1)++[kz 0])):=by
    rw[List.append_assoc,List.append_assoc];exact m_ _ _ _ _
   have FR:(aH++(lj aH.length (aH.length+1+t.sz+1) false::(aE t (aH.length+1)++[kz 0]))).length=aH.length+t.sz+2:=by rw[←Dw,List.length_set,BJ];omega
   generalize aH++[cg 2 0 0 []]++aE t (aH.length+1)++[cg 3 0 0 []]=B8 at*;refine zQ 8 ?_;refine EvO.zD hH rfl (ev rfl) (by exact at1) rfl (by dsimp only[Fr.put,u1,u2]<;>rfl) ?_;simp only[List.length_map,List.length_append,List.length_cons,List.length_nil];obtain⟨_,st,hev,rfl,hH⟩:=nB (at_:=aH.length) (over:=B8.length) (lz:=false) FW (by omega) hH;refine qv hev ?_;refine zQ 1 ?_;rw[BJ,Dw] at hH;refine zQ 6 ?_;refine qi hH at3 fun Sl PU=>?_;refine zQ 7 ?_;exact⟨mm-1,by omega,⟨i+1,j+t.flat.length,ts,cd,JQ,dk,aH++(lj aH.length (aH.length+1+t.sz+1) false::(aE t (aH.length+1)++[kz 0])),js++[aH.length+1+t.sz],rfl,(by rw[List.map_append (f:=iU)];rw[lV] at hH;exact hH),by omega,by omega,by omega,mL.right,by rw[←Fa];exact uD.right,by rw[←Hr];rw[←Hr] at mK;exact mK.right,iF.2,by rw[FR,←fM];simp only[List.append_assoc,List.cons_append,List.nil_append],by rw[FR,←hjs];simp only[List.append_assoc,List.cons_append,List.nil_append],by rw[FR];omega,by omega,by rw[List.length_append];simp only[List.length_cons,List.length_nil];omega⟩⟩
def aa (fr:Go.V.Fr) (k:Nat):Go.V.D:=Go.V.nth .junk fr.loc k
theorem pM {c:Nat→List az} (hc:∀b,(c b).length=0) (z:Nat):∀k b,dN c z k b=[]
 |0,_=>rfl
 |k+1,b=>by rw[dN,pM hc z k,List.length_eq_zero_iff.1 (hc b)];rfl
theorem Ap (s o:Nat) (lz:Bool):∃x y:Int,lj s o lz=cg 2 x y []:=by
 cases lz
 ·exact⟨_,_,rfl⟩
 ·exact⟨_,_,rfl⟩
theorem yT {l:List Nod} (hll:l.length≤1048576) {m:Nat} (ih:∀t:Tr,t.flat.length≤m→pa l t) {n:Nod} {t:Tr} (eB:n.op=5) (Lm:t.flat.length≤m) (lS:uc n 1) (pw:t.ok) {N k:Nat} {S s0:St} {H:List aN} {nd zd ed:D} {code:List az} {Z E:List Int} {at_:Nat} (hF:S.flr≤N) (hnd:SlD nd 7 (l.map aO)) (il:ec l at_ (n::t.flat)) (hsz:ec Z (at_+1) t.zs) (te:ec E (at_+1) (t.es (at_+1))) (hb:code.length+a_ n t.sz 1≤1000000) (hM:GM N S s0 k nd zd ed Z E H code):
  ∃r ae,Ev pv 90 [.ptr k 0 0,.int .i64 (at_:Nat)] s0 r ae∧r=.tup []∧GM N S ae k nd zd ed Z E H (code++lx n (aE t) t.sz code.length):=by
 obtain⟨cd,dk,hH⟩:=hM;have hle:=il.le (by simp);simp only[List.length_cons] at hle;have hn:=il.head;have il:=il.tail;have hr1:=jy hn;have mN:=dI (xl hsz)
 have z6:0≤n.mn∧n.mn≤30∧(n.mx=-1∨(n.mn≤n.mx∧n.mx≤30)):=by
  obtain⟨_,hq⟩:=lS;omega
 have DH:a_ n t.sz 1=if n.mx=-1 then n.mn.toNat*t.sz+t.sz+2 else n.mn.toNat*t.sz+(n.mx.toNat-n.mn.toNat)*(t.sz+1):=by unfold a_;rw[if_neg (by omega),if_neg (by omega),if_neg (by omega),if_pos eB]
 rw[DH] at hb;clear DH;have zg:=fun b=>bK t b pw;have hb1:code.length+n.mn.toNat*t.sz≤1000000:=by split at hb<;>omega
 refine Ev.iB rfl Ml rfl rfl rfl ?_;refine zE ?_;change EvC _ _ _ _ s0 _;have hc:=hnd.arg N S;refine zQ 7 ?_;refine qr fun O4 Lc=>?_;refine EvO.cq rfl (ev rfl) (by assumption) rfl (by dsimp only[Fr.put,u1,u2]<;>rfl) ?_;refine zQ 2 ?_;refine qa hH fun k4 st JF hH=>?_;refine qS hH at0 fun st hH=>?_;dsimp only[u2,u1,u3,u4,setMany,u5,u6,D.cells,Nat.reduceAdd,aA,aO,aj,iU] at hH;refine zQ 2 ?_;have hH:Has N S st (.box k (.mem 0 false [cd,nd,zd,ed])::.deep dk cd 4 (code.map aA)::.lst zd 1 (Z.map aj)::.lst ed 1 (E.map aj)::.box k4 (.mem 0 false (aO n))::H):=hH.C3;refine zQ 8 ?_;refine qi hH at2 fun Gv zk=>?_;refine zQ 3 ?_;have Rf:=gK zg n.mn.toNat code.length;refine EvC.merge (fun fr st=>∃(cd:D) (dk:Nat→Prop) (tmp:List (Nat×D)),fr=⟨78,[.ptr k 0 0,.int .i64 (at_:Nat),aa fr 2,aa fr 3,.ptr k4 0 0,.int .i64 ((at_+1:Nat):Int),aa fr 6,aa fr 7,aa fr 8,aa fr 9,aa fr 10,aa fr 11,aa fr 12,aa fr 13,aa fr 14,aa fr 15,aa fr 16,aa fr 17,aa fr 18,aa fr 19,aa fr 20,aa fr 21,aa fr 22,aa fr 23,aa fr 24,aa fr 25,aa fr 26,aa fr 27,aa fr 28,aa fr 29,aa fr 30,aa fr 31,aa fr 32,aa fr 33,aa fr 34,aa fr 35,aa fr 36,aa fr 37,aa fr 38,aa fr 39,aa fr 40,aa fr 41,aa fr 42,aa fr 43,aa fr 44,aa fr 45,aa fr 46,aa fr 47,aa fr 48,aa fr 49,aa fr 50,aa fr 51,aa fr 52,aa fr 53,aa fr 54,aa fr 55,aa fr 56,aa fr 57,aa fr 58,aa fr 59,aa fr 60,aa fr 61,aa fr 62,aa fr 63,aa fr 64,aa fr 65,aa fr 66,aa fr 67,aa fr 68,aa fr 69,aa fr 70,aa fr 71,aa fr 72,aa fr 73,aa fr 74,aa fr 75,aa fr 76,aa fr 77],tmp⟩∧Has N S st (.box k (.mem 0 false [cd,nd,zd,ed])::.deep dk cd 4 ((code++dN (aE t) t.sz n.mn.toNat code.length).map aA)::.lst zd 1 (Z.map aj)::.lst ed 1 (E.map aj)::.box k4 (.mem 0 false (aO n))::H)) ?_ ?_
 ·refine zP (fun hz=>?_) fun hz=>?_
  ·refine zQ 7 ?_;refine EvC.loop (fun mm fr st=>∃(i:Nat) (cd:D) (dk:Nat→Prop) (aH:List az),fr.clean=⟨78,[.ptr k 0 0,.int .i64 (at_:Nat),aa fr 2,aa fr 3,.ptr k4 0 0,.int .i64 ((at_+1:Nat):Int),aa fr 6,aa fr 7,aa fr 8,aa fr 9,aa fr 10,aa fr 11,aa fr 12,aa fr 13,aa fr 14,aa fr 15,aa fr 16,aa fr 17,aa fr 18,aa fr 19,aa fr 20,aa fr 21,aa fr 22,aa fr 23,aa fr 24,aa fr 25,aa fr 26,aa fr 27,.int .i64 n.mn,.int .i64 (i:Nat),aa fr 30,aa fr 31,aa fr 32,aa fr 33,aa fr 34,aa fr 35,aa fr 36,aa fr 37,aa fr 38,aa fr 39,aa fr 40,aa fr 41,aa fr 42,aa fr 43,aa fr 44,aa fr 45,aa fr 46,aa fr 47,aa fr 48,aa fr 49,aa fr 50,aa fr 51,aa fr 52,aa fr 53,aa fr 54,aa fr 55,aa fr 56,aa fr 57,aa fr 58,aa fr 59,aa fr 60,aa fr 61,aa fr 62,aa fr 63,aa fr 64,aa fr 65,aa fr 66,aa fr 67,aa fr 68,aa fr 69,aa fr 70,aa fr 71,aa fr 72,aa fr 73,aa fr 74,aa fr 75,aa fr 76,aa fr 77],[]⟩∧Has N S st (.box k (.mem 0 false [cd,nd,zd,ed])::.deep dk cd 4 (aH.map aA)::.lst zd 1 (Z.map aj)::.lst ed 1 (E.map aj)::.box k4 (.mem 0 false (aO n))::H)∧(i+mm=n.mn.toNat)∧(aH++dN (aE t) t.sz mm aH.length=code++dN (aE t) t.sz n.mn.toNat code.length)∧(aH.length+mm*t.sz=code.length+n.mn.toNat*t.sz)) (n.mn.toNat) ?_ ?_
   ·exact⟨0,cd,dk,code,rfl,hH,by omega,rfl,rfl⟩
   rintro mm fr st ⟨i,cd,dk,aH,hfr,hH,hi,x_,hcl⟩;rw[hfr];clear hfr;generalize aa fr=ee;clear fr;refine zQ 4 ?_
   cases mm with
   |zero=>
    have hcc:decide ((i:Int)<n.mn)=false:=by rw[decide_eq_false_iff_not];omega
    refine qq<|qE rfl (by rw[hcc]) ?_;simp only[dN,List.append_nil] at x_;rw[x_] at hH;refine zQ 1 ?_;exact⟨cd,dk,_,rfl,hH⟩
   |succ mm=>
    have hcc:decide ((i:Int)<n.mn)=true:=by rw[decide_eq_true_eq];omega
    rw[Nat.succ_mul] at hcl;refine qq<|qD rfl (by rw[hcc]) ?_;refine zQ 6 ?_;obtain⟨_,st,hev,rfl,cd,dk,hH⟩:=ih t (by omega) hF hnd il hsz te pw (by omega) ⟨cd,dk,hH⟩;refine qv hev ?_;refine zQ 5 ?_;exact⟨mm,by omega,⟨i+1,cd,dk,aH++aE t aH.length,rfl,hH,by omega,by rw[List.length_append,zg,List.append_assoc];exact x_,by rw[List.length_append,zg];omega⟩⟩
  ·refine zQ 1 ?_;have hz0:t.sz=0:=by omega
   have Rj:dN (aE t) t.sz n.mn.toNat code.length=[]:=pM (fun b=>by rw[zg,hz0]) _ _ _;exact⟨cd,dk,_,rfl,(by rw[Rj,List.append_nil];exact hH)⟩
 ·rintro fr st ⟨cd,dk,tmp,hfr,hH⟩;rw[hfr];clear hfr;generalize aa fr=ee;clear fr;have JG:(code++dN (aE t) t.sz n.mn.toNat code.length).length=code.length+n.mn.toNat*t.sz:=by rw[List.length_append,Rf]
  unfold lx;rw[←JG];rw[←JG] at hb1
  have hb2:if n.mx=-1 then(code++dN (aE t) t.sz n.mn.toNat code.length).length+t.sz+2≤1000000 else(code++dN (aE t) t.sz n.mn.toNat code.length).length+(n.mx.toNat-n.mn.toNat)*(t.sz+1)≤1000000:=by
   rw[JG];split
   ·rename_i h;rw[if_pos h] at hb;omega
   ·rename_i h;rw[if_neg h] at hb;omega
  have DU:∀X:List az,code++(dN (aE t) t.sz n.mn.toNat code.length++X)=code++dN (aE t) t.sz n.mn.toNat code.length++X:=fun X=>by rw[List.append_assoc]
  simp only[apply_ite (fun X:List az=>code++X),DU];clear DU JG;generalize code++dN (aE t) t.sz n.mn.toNat code.length=cR at*;refine zQ 7 ?_
  by_cases AD:n.mx=-1
  ·rw[if_pos AD];rw[if_pos AD] at hb2;refine qD rfl (by simp[AD]) ?_;refine zQ 3 ?_;refine EvO.go (d:=.agg [.int .i64 2,.int .i64 0,.int .i64 0,.nul]) (st1:=_) rfl rfl rfl (by dsimp only[Fr.put,u1,u2]<;>rfl) ?_;have hH:=hH.nulE 2;obtain⟨_,st,hev,rfl,cd,dk,hH⟩:=eQ (rs:=[]) hF (by omega) hH;refine qv hev ?_;refine zQ 2 ?_;have kD:(cR++[cg 2 0 0 []]).length=cR.length+1:=by simp
   refine zQ 4 ?_;obtain⟨_,st,hev,rfl,cd,dk,hH⟩:=ih t (by omega) hF hnd il hsz te pw (by omega) ⟨cd,dk,hH⟩;refine qv hev ?_;refine zQ 1 ?_;rw[kD] at hH;have lV:(cR++[cg 2 0 0 []]++aE t (cR.length+1)).length=cR.length+1+t.sz:=by rw[List.length_append,kD,zg]
   refine zQ 4 ?_;refine EvO.go (d:=.agg [.int .i64 3,.int .i64 (cR.length:Nat),.int .i64 0,.nul]) (st1:=_) rfl rfl rfl (by dsimp only[Fr.put,u1,u2]<;>rfl) ?_;have hH:=hH.nulE 2;obtain⟨_,st,hev,rfl,cd,dk,hH⟩:=eQ (rs:=[]) hF (by omega) hH;refine qv hev ?_;refine zQ 1 ?_
   have FW:(cR++[cg 2 0 0 []]++aE t (cR.length+1)++[cg 3 (cR.length:Nat) 0 []])[cR.length]?=some (cg 2 0 0 []):=by
    rw[List.append_assoc,List.append_assoc];exact nh _ _ _
   have BJ:(cR++[cg 2 0 0 []]++aE t (cR.length+1)++[cg 3 (cR.length:Nat) 0 []]).length=cR.length+t.sz+2:=by rw[List.length_append,lV];simp only[List.length_cons,List.length_nil];omega
   have Dw:(cR++[cg 2 0 0 []]++aE t (cR.length+1)++[cg 3 (cR.length:Nat) 0 []]).set cR.length (lj cR.length (cR.length+t.sz+2) n.lz)=cR++(lj cR.length (cR.length+t.sz+2) n.lz::(aE t (cR.length+1)++[kz cR.length])):=by
    rw[List.append_assoc,List.append_assoc];exact m_ _ _ _ _
   generalize cR++[cg 2 0 0 []]++aE t (cR.length+1)++[cg 3 (cR.length:Nat) 0 []]=B8 at*;refine zQ 8 ?_;refine EvO.zD hH rfl (ev rfl) (by exact at1) rfl (by dsimp only[Fr.put,u1,u2]<;>rfl) ?_;simp only[List.length_map,List.length_append,List.length_cons,List.length_nil];refine zQ 2 ?_;obtain⟨_,st,hev,rfl,hH⟩:=nB (at_:=cR.length) (over:=B8.length) (lz:=n.lz) FW (by omega) hH;refine qv hev ?_;refine zQ 1 ?_;rw[BJ,Dw] at hH;refine EvC.ret ⟨rx,_,_,_,rfl,rfl,?_⟩;exact⟨rfl,cd,dk,hH.erase 4⟩
  ·rw[if_neg AD];rw[if_neg AD] at hb2;refine qE rfl (by simp[AD]) ?_;refine zQ 1 ?_;obtain⟨a,ha⟩:∃a:Nat,n.mn=(a:Int):=Int.eq_ofNat_of_zero_le z6.1;obtain⟨b,Iv⟩:∃b:Nat,n.mx=(b:Int):=Int.eq_ofNat_of_zero_le (by omega);have LL:n.mx.toNat-n.mn.toNat=b-a:=by omega
   rw[LL] at hb2⊢;refine zQ 11 ?_;refine EvO.kb (z:=((b-a:Nat):Int)) rfl (ev rfl) (ev rfl) (by(try simp only[List.length_reverse,List.length_cons,List.length_nil,List.length_append,List.length_map,List.length_set]);rw[wrap_i64 (by omega) (by omega)]<;>omega) (by dsimp only[Fr.put,u1,u2]<;>rfl) ?_;refine zQ 2 ?_;have hH:Has N S st (.box k (.mem 0 false [cd,nd,zd,ed])::.deep dk cd 4 (cR.map aA)::.lst zd 1 (Z.map aj)::.lst ed 1 (E.map aj)::.lst .nul 1 (([]:List Nat).map iU)::.box k4 (.mem 0 false (aO n))::H):=(hH.nulE 1).C3;refine zQ 1 ?_;refine EvC.loop (fun mm fr st=>∃(i:Nat) (cd jd:D) (dk:Nat→Prop) (aH:List az) (js:List Nat),fr.clean=⟨78,[.ptr k 0 0,.int .i64 (at_:Nat),aa fr 2,aa fr 3,.ptr k4 0 0,.int .i64 ((at_+1:Nat):Int),aa fr 6,jd,aa fr 8,aa fr 9,aa fr 10,aa fr 11,aa fr 12,aa fr 13,aa fr 14,aa fr 15,aa fr 16,aa fr 17,aa fr 18,aa fr 19,aa fr 20,aa fr 21,aa fr 22,aa fr 23,aa fr 24,aa fr 25,aa fr 26,aa fr 27,aa fr 28,aa fr 29,aa fr 30,aa fr 31,aa fr 32,aa fr 33,aa fr 34,aa fr 35,aa fr 36,aa fr 37,aa fr 38,aa fr 39,aa fr 40,aa fr 41,aa fr 42,aa fr 43,aa fr 44,aa fr 45,aa fr 46,aa fr 47,aa fr 48,aa fr 49,aa fr 50,aa fr 51,aa fr 52,aa fr 53,aa fr 54,aa fr 55,aa fr 56,aa fr 57,aa fr 58,aa fr 59,aa fr 60,aa fr 61,.int .i64 ((b-a:Nat):Int),.int .i64 (i:Nat),aa fr 64,aa fr 65,aa fr 66,aa fr 67,aa fr 68,aa fr 69,aa fr 70,aa fr 71,aa fr 72,aa fr 73,aa fr 74,aa fr 75,aa fr 76,aa fr 77],[]⟩∧Has N S st (.box k (.mem 0 false [cd,nd,zd,ed])::.deep dk cd 4 (aH.map aA)::.lst zd 1 (Z.map aj)::.lst ed 1 (E.map aj)::.lst jd 1 (js.map iU)::.box k4 (.mem 0 false (aO n))::H)∧(i+mm=b-a)∧(aH++dF (fun _=>cg 2 0 0 []) (aE t) t.sz mm aH.length=cR++dF (fun _=>cg 2 0 0 []) (aE t) t.sz (b-a) cR.length)∧(js++tW t.sz mm aH.length=tW t.sz (b-a) cR.length)∧(aH.length+mm*(t.sz+1)=cR.length+(b-a)*(t.sz+1))∧(js.length=i)) (b-a) ?_ ?_
   ·exact⟨0,cd,.nul,dk,cR,[],rfl,hH,by omega,rfl,rfl,rfl,rfl⟩
   rintro mm fr st ⟨i,cd,jd,dk,aH,js,hfr,hH,hi,fM,hjs,hcl,iK⟩;rw[hfr];clear hfr;generalize aa fr=ee;clear fr;refine zQ 4 ?_
   cases mm with
   |zero=>
    have hcc:decide ((i:Int)<((b-a:Nat):Int))=false:=by rw[decide_eq_false_iff_not];omega
    refine qq<|qE rfl (by rw[hcc]) ?_;refine zQ 4 ?_;refine qn ?_ (hR:=hH.rows at4);simp only[List.length_map];refine zQ 2 ?_;simp only[dF,tW,List.append_nil] at fM hjs;rw[fM] at hH;obtain⟨DF,zZ⟩:=lD (sp:=fun s=>lj s (cR.length+(b-a)*(t.sz+1)) n.lz) zg (i0:=cg 2 0 0 []) (b-a) cR.length cR [] rfl;simp only[List.append_nil] at DF zZ;have L_:(cR++dF (fun _=>cg 2 0 0 []) (aE t) t.sz (b-a) cR.length).length=cR.length+(b-a)*(t.sz+1):=by rw[List.length_append,nR zg]
    rw[←hjs] at DF zZ;rw[←DF];clear DF fM;generalize cR++dF (fun _=>cg 2 0 0 []) (aE t) t.sz (b-a) cR.length=C0 at*;generalize cR.length+(b-a)*(t.sz+1)=e at*;refine zQ 1 ?_;refine EvC.loop (fun mm fr st=>∃(q:Nat) (C:List az),fr.clean=⟨78,[.ptr k 0 0,aa fr 1,aa fr 2,aa fr 3,.ptr k4 0 0,aa fr 5,aa fr 6,aa fr 7,aa fr 8,aa fr 9,aa fr 10,aa fr 11,aa fr 12,aa fr 13,aa fr 14,aa fr 15,aa fr 16,aa fr 17,aa fr 18,aa fr 19,aa fr 20,aa fr 21,aa fr 22,aa fr 23,aa fr 24,aa fr 25,aa fr 26,aa fr 27,aa fr 28,aa fr 29,aa fr 30,aa fr 31,aa fr 32,aa fr 33,aa fr 34,aa fr 35,aa fr 36,aa fr 37,aa fr 38,aa fr 39,aa fr 40,aa fr 41,aa fr 42,aa fr 43,aa fr 44,aa fr 45,aa fr 46,aa fr 47,aa fr 48,aa fr 49,aa fr 50,aa fr 51,aa fr 52,aa fr 53,aa fr 54,aa fr 55,aa fr 56,aa fr 57,aa fr 58,aa fr 59,aa fr 60,aa fr 61,aa fr 62,aa fr 63,aa fr 64,aa fr 65,aa fr 66,aa fr 67,aa fr 68,aa fr 69,aa fr 70,aa fr 71,aa fr 72,aa fr 73,aa fr 74,jd,.int .i64 (js.length:Nat),.int .i64 (q:Nat)],[]⟩∧Has N S st (.box k (.mem 0 false [cd,nd,zd,ed])::.deep dk cd 4 (C.map aA)::.lst zd 1 (Z.map aj)::.lst ed 1 (E.map aj)::.lst jd 1 (js.map iU)::.box k4 (.mem 0 false (aO n))::H)∧(q+mm=js.length)∧(fF (fun s=>lj s e n.lz) C (js.drop q)=fF (fun s=>lj s e n.lz) C0 js)∧(∀p∈js,∃x y:Int,C[p]?=some (cg 2 x y []))∧(C.length=e)) (js.length) ?_ ?_
    ·exact⟨0,C0,rfl,hH,by omega,rfl,fun p hp=>⟨_,_,zZ p hp⟩,L_⟩
    rintro mm fr st ⟨q,C,hfr,hH,hq,fW,kE,GK⟩;rw[hfr];clear hfr;generalize aa fr=ee;clear fr;refine zQ 5 ?_;refine zP (fun hlt=>?_) fun hlt=>?_
    ·refine zQ 1 ?_;have DC:q<js.length:=by omega
     obtain⟨p,hp⟩:∃p,js[q]?=some p:=⟨js[q]'DC,List.getElem?_eq_getElem _⟩
     obtain⟨x,y,hv⟩:=kE p (List.mem_of_getElem? hp);have hr1:=uf hp;have hpl:=lt_get hv;refine zQ 4 ?_;refine qi hH at4 fun OP KZ=>?_;refine zQ 10 ?_;refine EvO.zD hH rfl (ev rfl) (by exact at1) rfl (put_T rfl _) ?_;simp only[List.length_map];refine zQ 2 ?_;obtain⟨_,st,hev,rfl,hH⟩:=nB (at_:=p) (over:=C.length) (lz:=n.lz) hv (by omega) hH;refine qv hev ?_;refine zQ 5 ?_
     have wG:js.drop q=p::js.drop (q+1):=by
      rw[List.drop_eq_getElem_cons DC]
      congr 1
      exact Option.some.inj ((List.getElem?_eq_getElem _).symm.trans hp)
     refine⟨mm-1,by omega,⟨q+1,C.set p (lj p e n.lz),rfl,(by rw[GK] at hH;exact hH),by omega,by rw[wG] at fW;exact fW,?_,by rw[List.length_set];exact GK⟩⟩;intro p' sK
     by_cases hpp:p'=p
     ·subst hpp;obtain⟨x',y',Hn⟩:=Ap p' e n.lz;exact⟨x',y',by rw[List.getElem?_set_self hpl,Hn]⟩
     ·rw[List.getElem?_set_ne (fun e=>hpp e.symm)];exact kE p' sK
    ·refine zQ 1 ?_;refine⟨fun i h=>(by cases h),_,_,_,rfl,rfl,?_⟩;have Bq:q=js.length:=by omega
     rw[Bq,List.drop_length] at fW;have fW:C=fF (fun s=>lj s e n.lz) C0 js:=fW;rw[←fW];exact⟨rfl,cd,dk,(hH.erase 5).erase 4⟩
   |succ mm=>
    have hcc:decide ((i:Int)<((b-a:Nat):Int))=true:=by rw[decide_eq_true_eq];omega
    rw[Nat.succ_mul] at hcl;refine qq<|qD rfl (by rw[hcc]) ?_;refine zQ 7 ?_;refine EvO.go (d:=.agg [.int .i64 2,.int .i64 0,.int .i64 0,.nul]) (st1:=_) rfl rfl rfl (by dsimp only[Fr.put,u1,u2]<;>rfl) ?_;have hH:=hH.nulE 2;obtain⟨_,st,hev,rfl,cd,dk,hH⟩:=eQ (rs:=[]) hF (by omega) hH;refine qv hev ?_;refine qh (s:=1) (vs:=[_]) hH fun k69 st Qt hH=>?_;dsimp only[u2,u1,u3,u4,setMany,u5,u6,D.cells,Nat.reduceAdd,aA,aO,aj,iU] at hH;refine qP hH at5 (hH.rows at0) fun Oq st hH=>?_;dsimp only[u2,u1,u3,u4,setMany,u5,u6,D.cells,Nat.reduceAdd,aA,aO,aj,iU] at hH;refine zQ 2 ?_;have hH:=hH.drop 1;have kD:(aH++[cg 2 0 0 []]).length=aH.length+1:=by simp
    refine zQ 3 ?_;obtain⟨_,st,hev,rfl,cd,dk,hH⟩:=ih t (by omega) hF hnd il hsz te pw (by omega) ⟨cd,dk,hH⟩;refine qv hev ?_;refine zQ 1 ?_;rw[kD] at hH;have lV:(aH++[cg 2 0 0 []]++aE t (aH.length+1)).length=aH.length+1+t.sz:=by rw[List.length_append,kD,zg]
    refine zQ 4 ?_;exact⟨mm,by omega,⟨i+1,cd,Oq,dk,aH++[cg 2 0 0 []]++aE t (aH.length+1),js++[aH.length],rfl,(by rw[List.map_append (f:=iU)];exact hH),by omega,by rw[lV,←fM];simp only[dF,List.append_assoc,List.cons_append,List.nil_append],by rw[lV,←hjs];simp only[tW,List.append_assoc,List.cons_append,List.nil_append],by rw[lV];omega,by rw[List.length_append,iK];rfl⟩⟩
def bf (fr:Go.V.Fr) (k:Nat):Go.V.D:=Go.V.nth .junk fr.loc k
theorem u_ (t:Tr):et (.cons t .nil)=aE t:=by
 funext b;simp only[et,List.append_nil]
theorem vD (t:Tr):(aW.cons t .nil).sz=t.sz:=by simp only[aW.sz,Nat.add_zero]
theorem Da {l:List Nod} (hll:l.length≤1048576) (hi:∀n∈l,n.ok):∀(m:Nat) (t:Tr),t.flat.length≤m→pa l t:=by
 intro m
 induction m with
 |zero=>intro t h;have:=t.fN;omega
 |succ m ih=>
  rintro⟨n,ks⟩ hm N k S s0 H nd zd ed code Z E at_ hF hnd il hsz te hok hb hM;have SX:=hM;obtain⟨cd,dk,hH⟩:=hM;simp only[Tr.ok] at hok;obtain⟨lS,j8⟩:=hok;simp only[Tr.flat,List.length_cons] at hm;have hle:=il.le (by simp[Tr.flat]);simp only[Tr.flat] at il hle;simp only[List.length_cons] at hle;simp only[Tr.zs] at hsz;simp only[Tr.es] at te;simp only[Tr.sz] at hb;have hn:=il.head;have HX:=hi n (List.mem_of_getElem? hn);have Bp:=HX.1.arg N S;have px:=HX.2.1;have hr1:=jy hn;have GD:=lS.1;have gx:=aW.iZ ks;have hcat:=fun b=>kN ks b j8;refine Ev.iB rfl Mx rfl rfl rfl ?_;refine zE ?_;change EvC _ _ _ _ s0 _;have hc:=hnd.arg N S;refine zQ 7 ?_;refine qr fun Nr HT=>?_;refine EvO.cq rfl (ev rfl) (by assumption) rfl (by dsimp only[Fr.put,u1,u2]<;>rfl) ?_;refine qa hH fun k4 st JF hH=>?_;refine qS hH at0 fun st hH=>?_;dsimp only[u2,u1,u3,u4,setMany,u5,u6,D.cells,Nat.reduceAdd,aA,aO,aj,iU] at hH;refine zQ 1 ?_;have hH:Has N S st (.box k (.mem 0 false [cd,nd,zd,ed])::.deep dk cd 4 (code.map aA)::.lst zd 1 (Z.map aj)::.lst ed 1 (E.map aj)::.box k4 (.mem 0 false (aO n))::H):=hH.C3;refine zQ 11 ?_;refine zI (fun q2=>?_) fun q2=>?_
  ·have wK:aE (.mk n ks) code.length=[cg 1 0 0 n.rs]:=by simp only[aE,if_pos q2]
   rw[wK];have hz:a_ n ks.sz ks.len=1:=by unfold a_;rw[if_pos (.inl q2)]
   have hH:=hH.nulE 2;refine zQ 4 ?_;refine qP hH at0 (Arg.rows (by assumption) hH) fun M8 st hH=>?_;dsimp only[u2,u1,u3,u4,setMany,u5,u6,D.cells,Nat.reduceAdd,aA,aO,aj,iU] at hH;refine EvO.eI (qs:=[(0,_),(3,_)]) rfl rfl rfl rfl ⟨rfl,(ev rfl),(by rfl),rfl,(ev rfl),(by exact hH.ocells (by exact at0)),trivial⟩ (by intro q hq;simp only[List.mem_cons,List.not_mem_nil,or_false] at hq;rcases hq with rfl|rfl<;>exact⟨rfl,by exact Nat.le_of_ble_eq_true rfl⟩) (by show List.foldl _ [_,_,_,_] _=_;dsimp only[List.foldl_cons,List.foldl_nil,u2,u1]<;>rfl) (by dsimp only[Fr.put,u1,u2]<;>rfl) ?_;obtain⟨_,st,hev,rfl,cd,dk,hH⟩:=eQ (rs:=n.rs) hF (by omega) hH;refine qv hev ?_;refine zQ 1 ?_;refine⟨fun i h=>(by cases h),_,_,_,rfl,rfl,?_⟩;exact⟨rfl,cd,dk,hH.erase 4⟩
  refine zQ 5 ?_;refine zI (fun q7=>?_) fun q7=>?_
  ·have wK:aE (.mk n ks) code.length=[cg 5 0 0 []]:=by simp only[aE,if_neg q2,if_pos q7]
   rw[wK];refine zQ 2 ?_;refine EvO.go (d:=.agg [.int .i64 5,.int .i64 0,.int .i64 0,.nul]) (st1:=_) rfl rfl rfl (by dsimp only[Fr.put,u1,u2]<;>rfl) ?_;have hH:=hH.nulE 2;obtain⟨_,st,hev,rfl,cd,dk,hH⟩:=eQ (rs:=[]) hF (by omega) hH;refine qv hev ?_;refine zQ 1 ?_;refine⟨fun i h=>(by cases h),_,_,_,rfl,rfl,?_⟩;exact⟨rfl,cd,dk,hH.erase 4⟩
  refine zQ 5 ?_;refine zI (fun q8=>?_) fun q8=>?_
  ·have wK:aE (.mk n ks) code.length=[cg 6 0 0 []]:=by simp only[aE,if_neg q2,if_neg q7,if_pos q8]
   rw[wK];refine zQ 2 ?_;refine EvO.go (d:=.agg [.int .i64 6,.int .i64 0,.int .i64 0,.nul]) (st1:=_) rfl rfl rfl (by dsimp only[Fr.put,u1,u2]<;>rfl) ?_;have hH:=hH.nulE 2;obtain⟨_,st,hev,rfl,cd,dk,hH⟩:=eQ (rs:=[]) hF (by omega) hH;refine qv hev ?_;refine zQ 1 ?_;refine⟨fun i h=>(by cases h),_,_,_,rfl,rfl,?_⟩;exact⟨rfl,cd,dk,hH.erase 4⟩
  refine zQ 5 ?_;refine zI (fun q3=>?_) fun q3=>?_
  ·have wK:aE (.mk n ks) code.length=et ks code.length:=by simp only[aE,if_neg q2,if_neg q7,if_neg q8,if_pos q3]
   rw[wK];have hz:a_ n ks.sz ks.len=ks.sz:=by unfold a_;rw[if_neg (by omega),if_neg (by omega),if_neg (by omega),if_neg (by omega)]
   rw[hz] at hb;refine zQ 13 ?_;refine EvC.loop (fun mm fr st=>∃(i j:Nat) (rest:aW) (cd:D) (dk:Nat→Prop) (aH:List az),fr.clean=⟨40,[.ptr k 0 0,.int .i64 (at_:Nat),bf fr 2,bf fr 3,.ptr k4 0 0,.int .i64 (j:Nat),bf fr 6,bf fr 7,bf fr 8,bf fr 9,bf fr 10,bf fr 11,bf fr 12,bf fr 13,bf fr 14,bf fr 15,bf fr 16,bf fr 17,bf fr 18,bf fr 19,bf fr 20,bf fr 21,bf fr 22,bf fr 23,bf fr 24,bf fr 25,bf fr 26,bf fr 27,bf fr 28,bf fr 29,bf fr 30,bf fr 31,bf fr 32,bf fr 33,bf fr 34,bf fr 35,bf fr 36,bf fr 37,.int .i64 n.kids,.int .i64 (i:Nat)],[]⟩∧Has N S st (.box k (.mem 0 false [cd,nd,zd,ed])::.deep dk cd 4 (aH.map aA)::.lst zd 1 (Z.map aj)::.lst ed 1 (E.map aj)::.box k4 (.mem 0 false (aO n))::H)∧(mm=rest.len)∧(i+rest.len=ks.len)∧(ec l j rest.flat)∧(ec Z j rest.zs)∧(ec E j (rest.es j))∧(rest.ok)∧(aH++et rest aH.length=code++et ks code.length)∧(aH.length+rest.sz=code.length+ks.sz)∧(rest.flat.length≤m)) (ks.len) ?_ ?_
   ·exact⟨0,at_+1,ks,cd,dk,code,rfl,hH,rfl,by omega,il.tail,hsz.tail,te.tail,j8,rfl,rfl,by omega⟩
   rintro mm fr st ⟨i,j,rest,cd,dk,aH,hfr,hH,wA,zm,mL,uD,mK,iF,fM,hcl,Fl⟩;rw[hfr];clear hfr;generalize bf fr=ee;clear fr;refine zQ 4 ?_
   cases rest with
   |nil=>
    simp only[aW.len] at zm;simp only[et,List.append_nil] at fM;have hcc:decide ((i:Int)<n.kids)=false:=by rw[decide_eq_false_iff_not];omega
    refine qq<|qE rfl (by rw[hcc]) ?_;refine zQ 1 ?_;refine⟨fun i h=>(by cases h),_,_,_,rfl,rfl,?_⟩;rw[←fM];exact⟨rfl,cd,dk,hH.erase 4⟩
   |cons t ts=>
    simp only[aW.len] at zm wA;simp only[aW.sz] at hcl;simp only[aW.flat,List.length_append] at mL Fl;simp only[aW.zs] at uD;simp only[aW.es] at mK;simp only[aW.ok] at iF;simp only[et] at fM;have Fa:=t.gp;have Hr:=t.gA j;have zg:=bK t aH.length iF.1;have KQ:=dI (yk mK.left);have hcc:decide ((i:Int)<n.kids)=true:=by rw[decide_eq_true_eq];omega
    refine qq<|qD rfl (by rw[hcc]) ?_;refine zQ 7 ?_;obtain⟨_,st,hev,rfl,cd,dk,hH⟩:=ih t (by omega) hF hnd mL.left uD.left mK.left iF.1 (by omega) ⟨cd,dk,hH⟩;refine qv hev ?_;refine zQ 7 ?_;refine qi hH at3 fun JZ Fs=>?_;refine zQ 7 ?_;exact⟨mm-1,by omega,⟨i+1,j+t.flat.length,ts,cd,dk,aH++aE t aH.length,rfl,hH,by omega,by omega,mL.right,by rw[←Fa];exact uD.right,by rw[←Hr];rw[←Hr] at mK;exact mK.right,iF.2,by rw[List.length_append,zg,List.append_assoc];exact fM,by rw[List.length_append,zg];omega,by omega⟩⟩
  refine zQ 5 ?_;refine zI (fun q4=>?_) fun q4=>?_
  ·have wK:aE (.mk n ks) code.length=di (kz (code.length+a_ n ks.sz ks.len)) ks code.length:=by simp only[aE,if_neg q2,if_neg q7,if_neg q8,if_neg q3,if_pos q4]
   rw[wK];refine zQ 3 ?_;obtain⟨_,st,hev,rfl,cd,dk,hH⟩:=Gj hll ih q4 (by omega) lS j8 hF hnd il hsz.tail te.tail hb ⟨cd,dk,hH⟩;refine qv hev ?_;refine zQ 1 ?_;refine⟨fun i h=>(by cases h),_,_,_,rfl,rfl,?_⟩;exact⟨rfl,cd,dk,hH.erase 4⟩
  refine zQ 5 ?_;refine zI (fun q5=>?_) fun q5=>?_
  ·have oE:ks.len=1:=by
    obtain⟨_,hq⟩:=lS;omega
   obtain⟨t,rfl⟩:=aW.xU oE;have wK:aE (.mk n (.cons t .nil)) code.length=lx n (aE t) t.sz code.length:=by simp only[aE,if_neg q2,if_neg q7,if_neg q8,if_neg q3,if_neg q4,if_pos q5,u_,vD]
   rw[wK];rw[oE] at lS hb;rw[vD] at hb;simp only[aW.flat,aW.zs,aW.es,aW.ok,List.append_nil] at*;refine zQ 3 ?_;obtain⟨_,st,hev,rfl,cd,dk,hH⟩:=yT hll ih q5 (by omega) lS j8.1 hF hnd il hsz.tail te.tail hb ⟨cd,dk,hH⟩;refine qv hev ?_;refine zQ 1 ?_;refine⟨fun i h=>(by cases h),_,_,_,rfl,rfl,?_⟩;exact⟨rfl,cd,dk,hH.erase 4⟩
  refine zQ 5 ?_;refine zI (fun q6=>?_) fun q6=>?_
  ·have oE:ks.len=1∧1≤n.cap∧n.cap≤4:=by
    obtain⟨_,hq⟩:=lS;omega
   obtain⟨t,rfl⟩:=aW.xU oE.1;have wK:aE (.mk n (.cons t .nil)) code.length=cg 4 (2*n.cap) 0 []::(aE t (code.length+1)++[cg 4 (2*n.cap+1) 0 []]):=by simp only[aE,if_neg q2,if_neg q7,if_neg q8,if_neg q3,if_neg q4,if_neg q5,if_pos q6,u_]
   rw[wK];have hz:a_ n (aW.cons t .nil).sz (aW.cons t .nil).len=t.sz+2:=by unfold a_;rw[if_neg (by omega),if_neg (by omega),if_pos q6,vD]
   rw[hz] at hb;simp only[aW.flat,aW.zs,aW.es,aW.ok,List.append_nil] at il hsz te j8 hm;refine zQ 5 ?_;refine EvO.wa (z:=(2*n.cap)) rfl (ev rfl) (ev rfl) (by(try simp only[List.length_reverse,List.length_cons,List.length_nil,List.length_append,List.length_map,List.length_set]);rw[wrap_i64 (by omega) (by omega)]<;>omega) (put_T rfl _) ?_;refine EvO.go (d:=.agg [.int .i64 4,.int .i64 (2*n.cap),.int .i64 0,.nul]) (st1:=_) rfl rfl rfl (put_T rfl _) ?_;have hH:=hH.nulE 2;obtain⟨_,st,hev,rfl,cd,dk,hH⟩:=eQ (rs:=[]) hF (by omega) hH;refine qv hev ?_;refine zQ 1 ?_;have kD:(code++[cg 4 (2*n.cap) 0 []]).length=code.length+1:=by simp
   refine zQ 5 ?_;obtain⟨_,st,hev,rfl,cd,dk,hH⟩:=ih t (by omega) hF hnd il.tail hsz.tail te.tail j8.1 (by omega) ⟨cd,dk,hH⟩;refine qv hev ?_;refine zQ 1 ?_;rw[kD] at hH;have lV:(code++[cg 4 (2*n.cap) 0 []]++aE t (code.length+1)).length=code.length+1+t.sz:=by rw[List.length_append,kD,bK t _ j8.1]
   refine zQ 4 ?_;refine EvO.wa (z:=(2*n.cap)) rfl (ev rfl) (ev rfl) (by(try simp only[List.length_reverse,List.length_cons,List.length_nil,List.length_append,List.length_map,List.length_set]);rw[wrap_i64 (by omega) (by omega)]<;>omega) (put_T rfl _) ?_;refine EvO.gC (z:=(2*n.cap+1)) rfl (ev rfl) (ev rfl) (by(try simp only[List.length_reverse,List.length_cons,List.length_nil,List.length_append,List.length_map,List.length_set]);rw[wrap_i64 (by omega) (by omega)]<;>omega) (put_T rfl _) ?_;refine EvO.go (d:=.agg [.int .i64 4,.int .i64 (2*n.cap+1),.int .i64 0,.nul]) (st1:=_) rfl rfl rfl (put_T rfl _) ?_;have hH:=hH.nulE 2;obtain⟨_,st,hev,rfl,cd,dk,hH⟩:=eQ (rs:=[]) hF (by omega) hH;refine qv hev ?_;refine zQ 1 ?_;have eO:code++[cg 4 (2*n.cap) 0 []]++aE t (code.length+1)++[cg 4 (2*n.cap+1) 0 []]=code++cg 4 (2*n.cap) 0 []::(aE t (code.length+1)++[cg 4 (2*n.cap+1) 0 []]):=by simp
   rw[eO] at hH;refine⟨fun i h=>(by cases h),_,_,_,rfl,rfl,?_⟩;exact⟨rfl,cd,dk,hH.erase 4⟩
  ·refine zQ 1 ?_;have wK:aE (.mk n ks) code.length=[]:=by simp only[aE,if_neg q2,if_neg q7,if_neg q8,if_neg q3,if_neg q4,if_neg q5,if_neg q6]
   rw[wK,List.append_nil];refine⟨fun i h=>(by cases h),_,_,_,rfl,rfl,?_⟩;exact⟨rfl,cd,dk,hH.erase 4⟩
end Go.Proofs.YtnleclohocdkaaaGreat
