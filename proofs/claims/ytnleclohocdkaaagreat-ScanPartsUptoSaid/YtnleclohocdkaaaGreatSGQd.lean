/-
 Are nodes a pattern? syntax.Right, walked.
-/
import Derived.Test.YtnleclohocdkaaaGreatSGHr
import Derived.Test.YtnleclohocdkaaaGreatSGPe
set_option maxRecDepth 100000
set_option maxHeartbeats 4000000
set_option linter.unusedSimpArgs false
set_option linter.unusedVariables false
namespace Go.Proofs.YtnleclohocdkaaaGreat
open Go.V Go
def mN (fr:Go.V.Fr) (k:Nat):Go.V.D:=Go.V.nth .junk fr.loc k
theorem Cd {s0:St} {n:Nod} (hn:n.ok):Ev pv 129 [.agg (aQ n)] s0 (.bool (tu n)) s0:=by
 refine Ev.mk1 rfl La rfl rfl rfl ?_;refine zE ?_;obtain⟨hSb,hF,hH⟩:=ri s0;generalize enterSt .ro s0=S at*;have CY:=hn.1.arg s0.bs.length S;have pL:=hn.2.1;refine zQ 2 ?_;refine qb hH fun k1 st kV hH=>?_;dsimp only[u2,u1,u3,u4,setMany,u5,u6,D.cells,Nat.reduceAdd,aQ] at hH;refine zQ 10 ?_;refine EvC.kh 2 (.bool (((n.op==2)||((n.rs.length:Nat):Int)==0) &&((n.op==5)||((n.mn==0) &&(n.mx==0) &&!n.lz)) &&((n.op==6)||(n.cap==0)))) [] ?_ (fun ff tmp=>?_)
 ·refine zQ 4 ?_;refine EvO.two 10 rfl (fun hg3=>?_) (fun hg3=>?_)
  ·refine zQ 8 ?_;refine EvO.two 18 rfl (fun ch=>?_) (fun ch=>?_)
   ·refine zQ 20 ?_;refine EvO.two 38 rfl (fun iT=>?_) (fun iT=>?_)
    ·refine zQ 6 ?_;refine EvO.nil (aK ?_);refine zG ?_
     all_goals(simp[hg3,ch,iT];done)
    ·refine zQ 6 ?_;refine EvO.nil (aK ?_);refine zG ?_
     all_goals(simp[hg3,ch,iT];done)
   ·refine zQ 4 ?_;refine EvO.two 22 rfl (fun jD=>?_) (fun jD=>?_)
    ·refine zQ 3 ?_;refine EvO.pickT (wantD_is rfl rfl rfl ch) rfl jD (put_T rfl _) ?_;refine zQ 1 ?_;refine EvO.two 27 rfl (fun kI=>?_) (fun kI=>?_)
     ·refine zQ 3 ?_;refine EvO.pickT (wantD_is rfl rfl rfl ch) rfl kI (put_T rfl _) ?_;refine zQ 3 ?_;refine EvO.two 34 rfl (fun mU=>?_) (fun mU=>?_)
      ·refine zQ 4 ?_;refine EvO.two 38 rfl (fun iT=>?_) (fun iT=>?_)
       ·refine zQ 3 ?_;refine EvO.pickT (wantD_is rfl rfl rfl mU) rfl iT (put_T rfl _) ?_;refine zQ 2 ?_;refine EvO.nil (aK ?_);refine zG ?_
        all_goals(simp[hg3,ch,jD,kI,mU,iT];done)
       ·refine zQ 3 ?_;refine EvO.pickF (wantD_is rfl rfl rfl mU) rfl iT (put_T rfl _) ?_;refine zQ 2 ?_;refine EvO.nil (aK ?_);refine zG ?_
        all_goals(simp[hg3,ch,jD,kI,mU,iT];done)
      ·refine zQ 10 ?_;refine EvO.nil (aK ?_);refine zG ?_
       all_goals(simp[hg3,ch,jD,kI,mU];done)
     ·refine zQ 3 ?_;refine EvO.pickF (wantD_is rfl rfl rfl ch) rfl kI (put_T rfl _) ?_;refine zQ 13 ?_;refine EvO.nil (aK ?_);refine zG ?_
      all_goals(simp[hg3,ch,jD,kI];done)
    ·refine zQ 3 ?_;refine EvO.pickF (wantD_is rfl rfl rfl ch) rfl jD (put_T rfl _) ?_;refine zQ 18 ?_;refine EvO.nil (aK ?_);refine zG ?_
     all_goals(simp[hg3,ch,jD];done)
  ·refine zQ 2 ?_;refine qn ?_ (hg:=wi hg3);simp only[List.length_map];refine zQ 3 ?_;refine EvO.two 16 rfl (fun eS=>?_) (fun eS=>?_)
   ·refine zQ 2 ?_;refine EvO.two 18 rfl (fun ch=>?_) (fun ch=>?_)
    ·refine zQ 13 ?_;refine EvO.pickT (wantD_is rfl rfl rfl eS) rfl ch (put_T rfl _) ?_;refine zQ 6 ?_;refine EvO.two 38 rfl (fun iT=>?_) (fun iT=>?_)
     ·refine zQ 6 ?_;refine EvO.nil (aK ?_);refine zG ?_
      all_goals(simp[hg3,eS,ch,iT];done)
     ·refine zQ 6 ?_;refine EvO.nil (aK ?_);refine zG ?_
      all_goals(simp[hg3,eS,ch,iT];done)
    ·refine zQ 4 ?_;refine EvO.two 22 rfl (fun jD=>?_) (fun jD=>?_)
     ·refine zQ 3 ?_;refine EvO.pickT (wantD_is rfl rfl rfl ch) rfl jD (put_T rfl _) ?_;refine zQ 1 ?_;refine EvO.two 27 rfl (fun kI=>?_) (fun kI=>?_)
      ·refine zQ 3 ?_;refine EvO.pickT (wantD_is rfl rfl rfl ch) rfl kI (put_T rfl _) ?_;refine EvO.pickF (wantD_is rfl rfl rfl eS) rfl ch (put_T rfl _) ?_;refine zQ 2 ?_;refine EvO.two 34 rfl (fun mU=>?_) (fun mU=>?_)
       ·refine zQ 4 ?_;refine EvO.two 38 rfl (fun iT=>?_) (fun iT=>?_)
        ·refine zQ 3 ?_;refine EvO.pickT (wantD_is rfl rfl rfl mU) rfl iT (put_T rfl _) ?_;refine zQ 2 ?_;refine EvO.nil (aK ?_);refine zG ?_
         all_goals(simp[hg3,eS,ch,jD,kI,mU,iT];done)
        ·refine zQ 3 ?_;refine EvO.pickF (wantD_is rfl rfl rfl mU) rfl iT (put_T rfl _) ?_;refine zQ 2 ?_;refine EvO.nil (aK ?_);refine zG ?_
         all_goals(simp[hg3,eS,ch,jD,kI,mU,iT];done)
       ·refine zQ 10 ?_;refine EvO.nil (aK ?_);refine zG ?_
        all_goals(simp[hg3,eS,ch,jD,kI,mU];done)
      ·refine zQ 3 ?_;refine EvO.pickF (wantD_is rfl rfl rfl ch) rfl kI (put_T rfl _) ?_;refine EvO.pickF (wantD_is rfl rfl rfl eS) rfl ch (put_T rfl _) ?_;refine zQ 12 ?_;refine EvO.nil (aK ?_);refine zG ?_
       all_goals(simp[hg3,eS,ch,jD,kI];done)
     ·refine zQ 3 ?_;refine EvO.pickF (wantD_is rfl rfl rfl ch) rfl jD (put_T rfl _) ?_;refine zQ 5 ?_;refine EvO.pickF (wantD_is rfl rfl rfl eS) rfl ch (put_T rfl _) ?_;refine zQ 12 ?_;refine EvO.nil (aK ?_);refine zG ?_
      all_goals(simp[hg3,eS,ch,jD];done)
   ·refine zQ 28 ?_;refine EvO.nil (aK ?_);refine zG ?_
    all_goals(simp[hg3,eS];done)
 dsimp only[setW,List.foldl,nth,u2,u1];refine EvC.ret ⟨rx,_,rfl,rl hSb hH (rfl)⟩
theorem wZ {s0:St} {n:Nod} (hn:n.ok) {g:Nat} (hg:g≤1048576):Ev pv 113 [.agg (aQ n),.int .i64 (g:Nat)] s0 (.tup [.int .i64 (d_ n (g:Nat)).1,.bool (d_ n (g:Nat)).2]) s0:=by
 refine Ev.mk1 rfl Li rfl rfl rfl ?_;refine zE ?_;obtain⟨hSb,hF,hH⟩:=ri s0;generalize enterSt .ro s0=S at*;have CY:=hn.1.arg s0.bs.length S;have pL:=hn.2.1;refine zQ 2 ?_;refine qb hH fun k2 st hk2 hH=>?_;dsimp only[u2,u1,u3,u4,setMany,u5,u6,D.cells,Nat.reduceAdd,aQ] at hH;refine zQ 6 ?_;refine EvO.hloadS (m:=7) hH rfl (ev rfl) (by exact at0) (by dsimp only[List.drop_succ_cons,List.drop_zero,List.take_succ_cons,List.take_zero,aQ]<;>rfl) rfl rfl (by dsimp only[Fr.put,u1,u2]<;>rfl) ?_;refine qv (Cd hn) ?_;refine zQ 2 ?_;unfold d_
 cases hp:tu n with
 |false=>
  rw[if_pos rfl];refine zQ 6 ?_;refine EvC.ret ⟨rx,_,rfl,rl hSb hH (rfl)⟩
 |true=>
  rw[if_neg (by simp)];refine zQ 15 ?_
  by_cases q1:n.op=1
  ·rw[if_pos (.inl q1)];refine qD rfl (by simp[q1]) ?_;refine zQ 1 ?_;refine qD rfl (by simp[q1]) ?_;refine zQ 8 ?_;refine EvC.ret ⟨rx,_,rfl,rl hSb hH (rfl)⟩
  refine qE rfl (by simp[q1]) ?_;refine zQ 5 ?_
  by_cases q7:n.op=7
  ·rw[if_pos (.inr (.inl q7))];refine qD rfl (by simp[q7]) ?_;refine zQ 1 ?_;refine qD rfl (by simp[q7]) ?_;refine zQ 8 ?_;refine EvC.ret ⟨rx,_,rfl,rl hSb hH (rfl)⟩
  refine qE rfl (by simp[q7]) ?_;refine zQ 4 ?_
  by_cases q8:n.op=8
  ·rw[if_pos (.inr (.inr q8))];refine qD rfl (by simp[q8]) ?_;refine zQ 8 ?_;refine EvC.ret ⟨rx,_,rfl,rl hSb hH (rfl)⟩
  refine qE rfl (by simp[q8]) ?_;rw[if_neg (by omega)];refine zQ 5 ?_;refine zI (fun q2=>?_) fun q2=>?_
  ·rw[if_pos q2];refine qq<|EvC.Ii [4,5] (fun ff=>ff 4=.int .i64 0∧ff 5=.bool ((n.kids==0) &&ec n.rs)) ?_ (fun ff tmp A3=>?_)
   ·refine zQ 4 ?_;refine EvO.two 23 rfl (fun hg3=>?_) (fun hg3=>?_)
    ·refine zQ 2 ?_;refine qv (uQ (CY.rows hH) pL) ?_ (hg:=wi hg3);refine zQ 3 ?_;refine EvO.nil (jy ?_ ?_)
     ·dsimp only[setW,List.foldl,nth,u2,u1]
     ·dsimp only[nth];refine zF ?_;refine⟨?_,?_⟩<;>(first|rfl|(simp[hg3];done)|(simp_all;done)|(simp[hg3];omega)|(simp_all;omega))
    ·refine zQ 6 ?_;refine EvO.nil (jy ?_ ?_)
     ·dsimp only[setW,List.foldl,nth,u2,u1]
     ·dsimp only[nth];refine zF ?_;refine⟨?_,?_⟩<;>(first|rfl|(simp[hg3];done)|(simp_all;done)|(simp[hg3];omega)|(simp_all;omega))
   dsimp only[setW,List.foldl,nth,u2,u1];obtain⟨Di,Dh⟩:=A3;rw[Di,Dh];refine EvC.ret ⟨rx,_,rfl,rl hSb hH (rfl)⟩
  rw[if_neg q2];refine zQ 6 ?_
  by_cases q3:n.op=3
  ·rw[if_pos (.inl q3)];refine qD rfl (by simp[q3]) ?_;refine zQ 1 ?_;refine qD rfl (by simp[q3]) ?_;refine zQ 10 ?_;refine EvC.ret ⟨rx,_,rfl,rl hSb hH (rfl)⟩
  refine qE rfl (by simp[q3]) ?_;refine zQ 4 ?_
  by_cases q4:n.op=4
  ·rw[if_pos (.inr q4)];refine qD rfl (by simp[q4]) ?_;refine zQ 10 ?_;refine EvC.ret ⟨rx,_,rfl,rl hSb hH (rfl)⟩
  rw[if_neg (by omega)];refine qE rfl (by simp[q4]) ?_;refine zQ 5 ?_;refine zI (fun q5=>?_) fun q5=>?_
  ·rw[if_pos q5];refine qq<|EvC.Ii [4,5] (fun ff=>ff 4=.int .i64 1∧ff 5=.bool ((n.kids==1) &&decide (n.mn≥0) &&decide (n.mn≤30) &&((n.mx==-1)||(decide (n.mx≥n.mn) &&decide (n.mx≤30))))) ?_ (fun ff tmp A3=>?_)
   ·refine zQ 4 ?_;refine EvO.two 41 rfl (fun hg3=>?_) (fun hg3=>?_)
    ·refine zQ 5 ?_;refine EvO.two 46 rfl (fun hg8=>?_) (fun hg8=>?_)
     ·refine zQ 5 ?_;refine EvO.two 51 rfl (fun hg13=>?_) (fun hg13=>?_)
      ·refine zQ 4 ?_;refine EvO.two 55 rfl (fun bA=>?_) (fun bA=>?_)
       ·refine zQ 10 ?_;refine EvO.pickT (wantD_is rfl rfl rfl hg13) rfl bA (put_T rfl _) ?_;refine zQ 3 ?_;refine EvO.nil (jy ?_ ?_)
        ·dsimp only[setW,List.foldl,nth,u2,u1]
        ·dsimp only[nth];refine zF ?_;refine⟨?_,?_⟩<;>(first|rfl|(simp[hg3,hg8,hg13,bA];done)|(simp_all;done)|(simp[hg3,hg8,hg13,bA];omega)|(simp_all;omega))
       ·refine zQ 6 ?_;refine EvO.two 61 rfl (fun xY=>?_) (fun xY=>?_)
        ·refine zQ 3 ?_;refine EvO.pickT (wantD_is rfl rfl rfl bA) rfl xY (put_T rfl _) ?_;refine EvO.pickF (wantD_is rfl rfl rfl hg13) rfl bA (put_T rfl _) ?_;refine zQ 3 ?_;refine EvO.nil (jy ?_ ?_)
         ·dsimp only[setW,List.foldl,nth,u2,u1]
         ·dsimp only[nth];refine zF ?_;refine⟨?_,?_⟩<;>(first|rfl|(simp[hg3,hg8,hg13,bA,xY];done)|(simp_all;done)|(simp[hg3,hg8,hg13,bA,xY];omega)|(simp_all;omega))
        ·refine zQ 3 ?_;refine EvO.pickF (wantD_is rfl rfl rfl bA) rfl xY (put_T rfl _) ?_;refine EvO.pickF (wantD_is rfl rfl rfl hg13) rfl bA (put_T rfl _) ?_;refine zQ 3 ?_;refine EvO.nil (jy ?_ ?_)
         ·dsimp only[setW,List.foldl,nth,u2,u1]
         ·dsimp only[nth];refine zF ?_;refine⟨?_,?_⟩<;>(first|rfl|(simp[hg3,hg8,hg13,bA,xY];done)|(simp_all;done)|(simp[hg3,hg8,hg13,bA,xY];omega)|(simp_all;omega))
      ·refine zQ 18 ?_;refine EvO.nil (jy ?_ ?_)
       ·dsimp only[setW,List.foldl,nth,u2,u1]
       ·dsimp only[nth];refine zF ?_;refine⟨?_,?_⟩<;>(first|rfl|(simp[hg3,hg8,hg13];done)|(simp_all;done)|(simp[hg3,hg8,hg13];omega)|(simp_all;omega))
     ·refine zQ 23 ?_;refine EvO.nil (jy ?_ ?_)
      ·dsimp only[setW,List.foldl,nth,u2,u1]
      ·dsimp only[nth];refine zF ?_;refine⟨?_,?_⟩<;>(first|rfl|(simp[hg3,hg8];done)|(simp_all;done)|(simp[hg3,hg8];omega)|(simp_all;omega))
    ·refine zQ 28 ?_;refine EvO.nil (jy ?_ ?_)
     ·dsimp only[setW,List.foldl,nth,u2,u1]
     ·dsimp only[nth];refine zF ?_;refine⟨?_,?_⟩<;>(first|rfl|(simp[hg3];done)|(simp_all;done)|(simp[hg3];omega)|(simp_all;omega))
   dsimp only[setW,List.foldl,nth,u2,u1];obtain⟨Di,Dh⟩:=A3;rw[Di,Dh];refine EvC.ret ⟨rx,_,rfl,rl hSb hH (rfl)⟩
  rw[if_neg q5];refine zQ 5 ?_;refine zI (fun q6=>?_) fun q6=>?_
  ·rw[if_pos q6];refine qq<|EvC.Ii [4,5] (fun ff=>ff 4=.int .i64 1∧ff 5=.bool ((n.kids==1) &&(n.cap==((g+1:Nat):Int)) &&decide (n.cap≤4))) ?_ (fun ff tmp A3=>?_)
   ·refine zQ 4 ?_;refine EvO.two 73 rfl (fun hg3=>?_) (fun hg3=>?_)
    ·refine zQ 7 ?_;refine EvO.two 80 rfl (fun cw=>?_) (fun cw=>?_)
     ·refine zQ 6 ?_;refine EvO.nil (jy ?_ ?_)
      ·dsimp only[setW,List.foldl,nth,u2,u1]
      ·dsimp only[nth];refine zF ?_;refine⟨?_,?_⟩<;>(first|rfl|(simp[hg3,cw];done)|(simp_all;done)|(simp[hg3,cw];omega)|(simp_all;omega))
     ·refine zQ 6 ?_;refine EvO.nil (jy ?_ ?_)
      ·dsimp only[setW,List.foldl,nth,u2,u1]
      ·dsimp only[nth];refine zF ?_;refine⟨?_,?_⟩<;>(first|rfl|(simp[hg3,cw];done)|(simp_all;done)|(simp[hg3,cw];omega)|(simp_all;omega))
    ·refine zQ 13 ?_;refine EvO.nil (jy ?_ ?_)
     ·dsimp only[setW,List.foldl,nth,u2,u1]
     ·dsimp only[nth];refine zF ?_;refine⟨?_,?_⟩<;>(first|rfl|(simp[hg3];done)|(simp_all;done)|(simp[hg3];omega)|(simp_all;omega))
   dsimp only[setW,List.foldl,nth,u2,u1];obtain⟨Di,Dh⟩:=A3;rw[Di,Dh];refine EvC.ret ⟨rx,_,rfl,rl hSb hH (rfl)⟩
  ·rw[if_neg q6];refine zQ 6 ?_;refine EvC.ret ⟨rx,_,rfl,rl hSb hH (rfl)⟩
theorem vj {n:Nod} (h:n.ok):refs (aQ n)=0:=by
 have:=h.1.ref;simp only[aQ,refs,D.ref,this,Nat.max_self]
def nr (d:D) (at_ g:Nat):List D:=[d,.int .i64 (at_:Nat),.int .i64 (g:Nat)]
theorem Cr {l:List Nod} {d:D} (hl:l.length≤1048576) (hi:∀n∈l,n.ok) (hd:SlD d 7 (l.map aQ)):∀(f:Nat) {N k:Nat} {S s0:St} {H:List aN} {at_ g:Nat},f≤241→g≤4→Has N S s0 (.box k (.mem 0 false (nr d at_ g))::H)→
  ∃r ab,Ev pv 88 [.ptr k 0 0,.int .i64 ((241-f:Nat):Int)] s0 r ab∧r=.bool (gq l f at_ g).isSome∧∃a' g',Has N S ab (.box k (.mem 0 false (nr d a' g'))::H)∧g'≤4∧∀q,gq l f at_ g=some q→a'=q.1∧g'=q.2:=by
 intro f
 induction f with
 |zero=>
  intro N k S s0 H at_ g hf hg hH;refine Ev.fX rfl KN rfl rfl rfl ?_;refine zE ?_;have bP:=hH;have hH:=hH.bT;have bO:(enterSt .rw s0).bs=s0.bs:=rfl;generalize enterSt .rw s0=S2 at*;have hc:=hd.arg N S2;refine zQ 6 ?_;refine EvC.cutT 21 (.bool (decide ((at_:Int)≥(l.length:Nat))||decide (((241-0:Nat):Int)>240))) [] ?_ (fun ff tmp htmp=>?_)
  ·refine zQ 8 ?_;refine qn ?_;simp only[List.length_map];refine zQ 2 ?_;refine EvO.two 18 rfl (fun cw=>?_) (fun cw=>?_)
   ·refine zQ 3 ?_;refine EvO.nil (leafT ?_ ?_)
    ·dsimp only[setW,List.foldl,nth,u2,u1]
     all_goals(first|rfl|simp)
    ·refine zF ?_
     all_goals(simp[cw];done)
   ·refine zQ 3 ?_;refine EvO.nil (leafT ?_ ?_)
    ·dsimp only[setW,List.foldl,nth,u2,u1]
     all_goals(first|rfl|simp)
    ·refine zF ?_
     all_goals(simp[cw];done)
  dsimp only[setW,List.foldl,nth,u2,u1];have hT:(decide ((at_:Int)≥(l.length:Nat))||decide (((241-0:Nat):Int)>240))=true:=by simp
  rw[hT] at htmp;refine zQ 5 ?_;refine EvC.ret ⟨rx,_,_,_,rfl,ae (rfl),?_⟩;exact⟨rfl,_,_,bP.ak bO hH,hg,fun q hq=>by simp[gq] at hq⟩
 |succ f ih=>
  intro N k S s0 H at_ g hf hg hH;refine Ev.fX rfl KN rfl rfl rfl ?_;refine zE ?_;have bP:=hH;have hH:=hH.bT;have bO:(enterSt .rw s0).bs=s0.bs:=rfl;generalize enterSt .rw s0=S2 at*;have hc:=hd.arg N S2;refine zQ 6 ?_;refine EvC.cutT 21 (.bool (decide ((at_:Int)≥(l.length:Nat))||decide (((241-(f+1):Nat):Int)>240))) [] ?_ (fun ff tmp htmp=>?_)
  ·refine zQ 8 ?_;refine qn ?_;simp only[List.length_map];refine zQ 2 ?_;refine EvO.two 18 rfl (fun cw=>?_) (fun cw=>?_)
   ·refine zQ 3 ?_;refine EvO.nil (leafT ?_ ?_)
    ·dsimp only[setW,List.foldl,nth,u2,u1]
     all_goals(first|rfl|simp)
    ·refine zF ?_
     all_goals(simp_all;done)
   ·refine zQ 3 ?_;refine EvO.nil (leafT ?_ ?_)
    ·dsimp only[setW,List.foldl,nth,u2,u1]
     all_goals(first|rfl|simp)
    ·refine zF ?_
     all_goals(simp_all;omega)
  dsimp only[setW,List.foldl,nth,u2,u1]
  by_cases ha:l.length≤at_
  ·have hT:(decide ((at_:Int)≥(l.length:Nat))||decide (((241-(f+1):Nat):Int)>240))=true:=by
    rw[Bool.or_eq_true];exact .inl (by rw[decide_eq_true_eq];omega)
   rw[hT] at htmp;have hn:gq l (f+1) at_ g=none:=by unfold gq;rw[List.getElem?_eq_none ha]
   rw[hn];refine zQ 5 ?_;refine EvC.ret ⟨rx,_,_,_,rfl,ae (rfl),?_⟩;exact⟨rfl,_,_,bP.ak bO hH,hg,fun q hq=>by cases hq⟩
  ·have hT:(decide ((at_:Int)≥(l.length:Nat))||decide (((241-(f+1):Nat):Int)>240))=false:=by
    rw[Bool.or_eq_false_iff];exact⟨by rw[decide_eq_false_iff_not];omega,by rw[decide_eq_false_iff_not];omega⟩
   rw[hT] at htmp
   obtain⟨n,hn⟩:∃n,l[at_]?=some n:=⟨l[at_]'(by omega),List.getElem?_eq_getElem _⟩
   have mT:=hi n (List.mem_of_getElem? hn);have hr1:=j6 hn;have Ek:=vj mT
   have iP:gq l (f+1) at_ g=if(d_ n (g:Nat)).2=true then iu (gq l f) (d_ n (g:Nat)).1.toNat (at_+1) (if n.op=6 then g+1 else g) else none:=by
    rw[gq,hn]
   rw[iP];clear iP;refine zQ 12 ?_;refine qr fun Qa JY=>?_;refine EvO.cu rfl (ev rfl) (by assumption) rfl (put_T rfl _) ?_;refine qa hH fun k5 st Ep hH=>?_;dsimp only[u2,u1,u3,u4,setMany,u5,u6,D.cells,Nat.reduceAdd,nr,aQ] at hH;refine EvO.hstoreA hH rfl (ev rfl) (ev rfl) (by rfl) (by exact rfl) (by exact at0) (by exact rfl) (by exact .inr (by assumption)) (fun st hH=>?_);dsimp only[u2,u1,u3,u4,setMany,u5,u6,D.cells,Nat.reduceAdd,nr,aQ] at hH;refine zQ 3 ?_;refine EvO.hloadS (m:=7) hH rfl (ev rfl) (by exact at0) (by dsimp only[List.drop_succ_cons,List.drop_zero,List.take_succ_cons,List.take_zero,nr,aQ]<;>rfl) rfl rfl (put_T rfl _) ?_;refine zQ 4 ?_;refine qv (wZ mT (by omega)) ?_;refine zQ 12 ?_
   cases hsh:(d_ n (g:Nat)).2 with
   |false=>
    rw[if_neg (by simp)];refine zQ 5 ?_;refine EvC.ret ⟨rx,_,_,_,rfl,ae (rfl),?_⟩;exact⟨rfl,_,_,bP.ak bO (hH.drop 1),hg,fun q hq=>by cases hq⟩
   |true=>
    rw[if_pos rfl];obtain⟨⟨kV,_⟩,hk2,BB⟩:=uH hsh;have IV:=mT.2.2;obtain⟨kd,HH⟩:∃kd:Nat,(d_ n (g:Nat)).1=(kd:Int):=Int.eq_ofNat_of_zero_le hk2;rw[HH,Int.toNat_natCast];rw[HH,Int.toNat_natCast] at kV;refine zQ 11 ?_;refine qT hH at1 fun st hH=>?_;dsimp only[u2,u1,u3,u4,setMany,u5,u6,D.cells,Nat.reduceAdd,nr,aQ] at hH;refine zQ 8 ?_;refine EvC.merge (fun fr st=>∃(g2:Nat) (tmp:List (Nat×D)),fr=⟨8,[.ptr k 0 0,.int .i64 ((241-(f+1):Nat):Int),mN fr 2,mN fr 3,.bool false,.ptr k5 0 0,.int .i64 (kd:Nat),.bool true],tmp⟩∧Has N S2 st (.box k (.mem 0 false [d,.int .i64 ((at_+1:Nat):Int),.int .i64 (g2:Nat)])::.box k5 (.mem 0 false (aQ n))::H)∧(g2=if n.op=6 then g+1 else g)∧(g2≤4)) ?_ ?_
    ·refine zI (fun q6=>?_) fun q6=>?_
     ·have:=BB q6;refine zQ 8 ?_;refine qT hH at1 fun st hH=>?_;dsimp only[u2,u1,u3,u4,setMany,u5,u6,D.cells,Nat.reduceAdd,nr,aQ] at hH;refine zQ 1 ?_;exact⟨g+1,_,rfl,(by have:=hH.front at1;exact this),by rw[if_pos q6],by omega⟩
     ·refine zQ 1 ?_;exact⟨g,_,rfl,(by have:=hH.front at1;exact this),by rw[if_neg q6],hg⟩
    ·rintro fr st ⟨g2,tmp,hfr,hH,bS,hg3⟩;rw[hfr];clear hfr;generalize mN fr=ee;clear fr;rw[←bS];refine zQ 2 ?_;refine EvC.loop (fun mm fr st=>∃(kk a2 g4:Nat),fr.clean=⟨8,[.ptr k 0 0,.int .i64 ((241-(f+1):Nat):Int),mN fr 2,mN fr 3,.bool false,.ptr k5 0 0,.int .i64 (kk:Nat),.bool true],[]⟩∧Has N S2 st (.box k (.mem 0 false [d,.int .i64 (a2:Nat),.int .i64 (g4:Nat)])::.box k5 (.mem 0 false (aQ n))::H)∧(iu (gq l f) kk a2 g4=iu (gq l f) kd (at_+1) g2)∧(g4≤4)∧(kk=mm)∧(kk≤9223372036854775807)) (kd) ?_ ?_
     ·exact⟨kd,at_+1,g2,rfl,hH,rfl,hg3,rfl,by omega⟩
     rintro mm fr st ⟨kk,a2,g4,hfr,hH,hX,fK,En,hkk⟩;rw[hfr];clear hfr;generalize mN fr=ee;clear fr;refine zQ 6 ?_
     cases kk with
     |zero=>
      refine EvC.cond (v:=false) (by dsimp only[Fr.ev,Fr.get,nth,V.look];rfl) (fun h=>by cases h) (fun _=>?_);refine zQ 5 ?_;refine EvC.ret ⟨rx,_,_,_,rfl,ae (rfl),?_⟩;exact⟨by rw[←hX];rfl,_,_,bP.ak bO (hH.erase 1),fK,fun q hq=>by rw[←hX] at hq;simp only[iu,Option.some.injEq] at hq;subst hq;exact⟨rfl,rfl⟩⟩
     |succ kk=>
      rw[iu] at hX;refine qD rfl (by simp) ?_;refine zQ 7 ?_;refine EvO.gI (z:=((241-f:Nat):Int)) rfl (ev rfl) (ev rfl) (by(try simp only[List.length_reverse,List.length_cons,List.length_nil,List.length_append,List.length_map,List.length_set]);rw[wrap_i64 (by omega) (by omega)]<;>omega) (put_T rfl _) ?_;obtain⟨_,st,hev,rfl,a',g',hH,gw,hq⟩:=ih (at_:=a2) (g:=g4) (by omega) fK hH;refine qv hev ?_;refine zQ 2 ?_
      cases ho:gq l f a2 g4 with
      |none=>
       rw[ho] at hX;refine zQ 5 ?_;refine EvC.ret ⟨rx,_,_,_,rfl,ae (rfl),?_⟩;exact⟨by rw[←hX];rfl,_,_,bP.ak bO (hH.erase 1),gw,fun q hq=>by rw[←hX] at hq;cases hq⟩
      |some q=>
       rw[ho] at hX;obtain⟨rfl,rfl⟩:=hq q ho;refine zQ 4 ?_;refine EvO.ky (z:=((kk:Nat):Int)) rfl (ev rfl) (ev rfl) (by(try simp only[List.length_reverse,List.length_cons,List.length_nil,List.length_append,List.length_map,List.length_set]);rw[wrap_i64 (by omega) (by omega)]<;>omega) (put_T rfl _) ?_;refine zQ 2 ?_;exact⟨mm-1,by omega,⟨kk,q.1,q.2,rfl,hH,hX,gw,by omega,by omega⟩⟩
theorem An {s0:St} {x:Nl} (hx:x.ok):Ev pv 43 [x.d] s0 (.bool (e6 x.l)) s0:=by
 refine Ev.mk1 rfl Pk rfl rfl rfl ?_;refine zE ?_;obtain⟨hSb,hF,hH⟩:=ri s0;generalize enterSt .ro s0=S at*;have hc:=hx.c.arg s0.bs.length S;have hl:=hx.nl;have n_:=hx.c;refine zQ 6 ?_;refine EvC.cutT 11 (.bool (decide (((x.l.length:Nat):Int)<1)||decide (((x.l.length:Nat):Int)>480))) [] ?_ (fun ff tmp htmp=>?_)
 ·refine qm ?_;refine qn ?_;simp only[List.length_map];refine zQ 2 ?_;refine EvO.two 7 rfl (fun hg3=>?_) (fun hg3=>?_)
  ·refine zQ 4 ?_;refine EvO.nil (leafT ?_ ?_)
   ·dsimp only[setW,List.foldl,nth,u2,u1]
    all_goals(first|rfl|simp)
   ·refine zF ?_
    all_goals(simp[hg3];done)
  ·refine zQ 1 ?_;refine qn ?_ (hg:=wi hg3);simp only[List.length_map];refine zQ 2 ?_;refine EvO.nil (leafT ?_ ?_)
   ·dsimp only[setW,List.foldl,nth,u2,u1]
    all_goals(first|rfl|simp)
   ·refine zF ?_
    all_goals(simp[hg3];done)
 dsimp only[setW,List.foldl,nth,u2,u1]
 by_cases hlen:1≤x.l.length∧x.l.length≤480
 ·have hT:(decide (((x.l.length:Nat):Int)<1)||decide (((x.l.length:Nat):Int)>480))=false:=by
   rw[Bool.or_eq_false_iff];exact⟨by rw[decide_eq_false_iff_not];omega,by rw[decide_eq_false_iff_not];omega⟩
  rw[hT] at htmp
  have hR:e6 x.l=(match gq x.l 241 0 0 with|some r=>decide (r.1=x.l.length)|none=>false):=by
   unfold e6;rw[decide_eq_true hlen.1,decide_eq_true hlen.2];rfl
  rw[hR];clear hR;refine zQ 5 ?_;refine EvO.eE (qs:=[(0,_)]) rfl rfl rfl rfl ⟨rfl,(ev rfl),(by exact(SlD.cells (by assumption)).1),trivial⟩ (by intro q hq;simp only[List.mem_cons,List.not_mem_nil,or_false] at hq;rcases hq with rfl<;>exact⟨rfl,by exact Nat.le_of_ble_eq_true rfl⟩) (by show List.foldl _ [_,_,_] _=_;dsimp only[List.foldl_cons,List.foldl_nil,u2,u1]<;>rfl) (put_T rfl _) ?_;refine qb hH fun k14 st HK hH=>?_;refine zQ 2 ?_;have hH:Has s0.bs.length S st (.box k14 (.mem 0 false (nr x.d 0 0))::[]):=hH
  cases bS:(gq x.l 241 0 0).isSome with
  |true=>
   obtain⟨q,hq⟩:=Option.isSome_iff_exists.1 bS;refine zQ 3 ?_;obtain⟨_,st,hev,rfl,a',g',hH,gw,JW⟩:=Cr hl hx.i hx.c 241 (by omega) (by omega) hH;refine qv hev ?_;refine zQ 6 ?_;refine qn ?_ (hg:=wi bS);simp only[List.length_map];refine zQ 4 ?_;obtain⟨rfl,rfl⟩:=JW q hq;rw[hq]
   have he:decide (q.1=x.l.length)=(((q.1:Nat):Int)==((x.l.length:Nat):Int)):=by
    rw[Bool.eq_iff_iff];simp only[decide_eq_true_eq,beq_iff_eq];omega
   simp only[he];refine EvC.ret ⟨rx,_,rfl,rl hSb hH (rfl)⟩
  |false=>
   have hq:gq x.l 241 0 0=none:=by
    cases hq:gq x.l 241 0 0 with
    |none=>rfl
    |some q=>rw[hq] at bS;cases bS
   refine zQ 3 ?_;obtain⟨_,st,hev,rfl,a',g',hH,gw,JW⟩:=Cr hl hx.i hx.c 241 (by omega) (by omega) hH;refine qv hev ?_;refine zQ 11 ?_;rw[hq];refine EvC.ret ⟨rx,_,rfl,rl hSb hH (rfl)⟩
 ·have hT:(decide (((x.l.length:Nat):Int)<1)||decide (((x.l.length:Nat):Int)>480))=true:=by
   rw[Bool.or_eq_true,decide_eq_true_eq,decide_eq_true_eq];omega
  rw[hT] at htmp
  have hR:e6 x.l=false:=by
   unfold e6
   by_cases h1:1≤x.l.length
   ·rw[decide_eq_true h1,decide_eq_false (fun h2=>hlen ⟨h1,h2⟩)];rfl
   ·rw[decide_eq_false h1];rfl
  rw[hR];refine zQ 5 ?_;refine EvC.ret ⟨rx,_,rfl,rl hSb hH (rfl)⟩
def aD (fr:Go.V.Fr) (k:Nat):Go.V.D:=Go.V.nth .junk fr.loc k
def l8 (es:List Int) (a:Nat) (M:List Int):List Int:=es.take a++M++es.drop (a+M.length)
theorem yR {es M:List Int} {a:Nat} (h:a+M.length≤es.length):(l8 es a M).length=es.length:=by
 unfold l8;simp only[List.length_append,List.length_take,List.length_drop];omega
theorem yQ {es:List Int} {a:Nat}:l8 es a []=es:=by
 unfold l8;simp
theorem EI {es M:List Int} {a:Nat} {x:Int} (h:a≤es.length):(l8 es a (x::M))[a]?=some x:=by
 unfold l8;rw[List.append_assoc,List.getElem?_append_right (by simp only[List.length_take];omega)];simp[Nat.min_eq_left h]
theorem yO {es M M':List Int} {a:Nat} (h:a+M.length+M'.length≤es.length):l8 (l8 es a M) (a+M.length) M'=l8 es a (M++M'):=by
 unfold l8;have h1:(es.take a++M).length=a+M.length:=by simp only[List.length_append,List.length_take];omega
 rw[List.take_append_of_le_length (by omega),List.take_of_length_le (by omega)];rw[←h1,List.drop_append,List.drop_eq_nil_of_le (by omega),List.nil_append,h1,List.drop_drop];simp only[List.append_assoc,List.length_append]
 congr 4
 omega
theorem yP {es M:List Int} {a:Nat} {v:Int} (h:a+1+M.length≤es.length):(l8 es (a+1) M).set a v=l8 es a (v::M):=by
 unfold l8;have h1:(es.take a).length=a:=by simp only[List.length_take];omega
 rw[List.append_assoc,List.take_add_one,List.getElem?_eq_getElem (by omega)];simp only[Option.toList_some,List.append_assoc,List.cons_append,List.nil_append,List.length_cons];rw[List.set_append_right _ _ (by omega),h1,Nat.sub_self,List.set_cons_zero]
 congr 4
 omega
theorem BZ {l:List Nod} {d:D} (hl:l.length≤1048576) (hi:∀n∈l,n.ok) (hd:SlD d 7 (l.map aQ)):∀(m:Nat) (t:Tr),t.flat.length≤m→t.ok→∀{N:Nat} {S s0:St} {H:List aN} {out:D} {es:List Int} {at_:Nat},eB l at_ t.flat→es.length=l.length→Has N S s0 (.lst out 1 (es.map ai)::H)→
  ∃r ab,Ev pv 44 [d,out,.int .i64 (at_:Nat)] s0 r ab∧r=.int .i64 ((at_+t.flat.length:Nat):Int)∧Has N S ab (.lst out 1 ((l8 es at_ t.zs).map ai)::H):=by
 intro m
 induction m with
 |zero=>intro t h;have:=t.gy;omega
 |succ m ih=>
  rintro⟨n,ks⟩ hm hok N S s0 H out es at_ iO oz hH;simp only[Tr.ok] at hok;obtain⟨mT,kU⟩:=hok;simp only[Tr.flat,List.length_cons] at hm;have hle:=iO.le (by simp[Tr.flat]);simp only[Tr.flat] at iO hle;simp only[List.length_cons] at hle;have hn:=iO.head;have iO:=iO.tail;have J4:=hi n (List.mem_of_getElem? hn);have hr1:=j6 hn;have Ek:=vj J4;have HH:=mT.1;have kJ:=a7.jx ks;refine Ev.fX rfl Pj rfl rfl rfl ?_;refine zE ?_;have bP:=hH;have hH:=hH.bT;have bO:(enterSt .rw s0).bs=s0.bs:=rfl;generalize enterSt .rw s0=S2 at*;have hc:=hd.arg N S2;refine zQ 8 ?_;refine qr fun RM NB=>?_;refine EvO.cu rfl (ev rfl) (by assumption) rfl (by dsimp only[Fr.put,u1,u2]<;>rfl) ?_;refine qa hH fun k7 st NN hH=>?_;refine EvO.hstoreA hH rfl (ev rfl) (ev rfl) (by rfl) (by exact rfl) (by exact at0) (by exact rfl) (by exact .inr (by assumption)) (fun st hH=>?_);dsimp only[u2,u1,u3,u4,setMany,u5,u6,D.cells,Nat.reduceAdd,aQ,ai] at hH;refine zQ 19 ?_;refine EvC.loop (fun mm fr st=>∃(i j ss:Nat) (rest:a7) (oc:List Int),fr.clean=⟨36,[d,out,.int .i64 (at_:Nat),aD fr 3,aD fr 4,aD fr 5,.int .i64 0,.ptr k7 0 0,.int .i64 (j:Nat),.int .i64 ((min ss 401:Nat):Int),aD fr 10,aD fr 11,aD fr 12,aD fr 13,aD fr 14,aD fr 15,aD fr 16,aD fr 17,.int .i64 n.kids,.int .i64 (i:Nat),aD fr 20,aD fr 21,aD fr 22,aD fr 23,aD fr 24,aD fr 25,aD fr 26,aD fr 27,aD fr 28,aD fr 29,aD fr 30,aD fr 31,aD fr 32,aD fr 33,aD fr 34,aD fr 35],[]⟩∧Has N S2 st (.lst out 1 (oc.map ai)::.box k7 (.mem 0 false (aQ n))::H)∧(mm=rest.len)∧(i+rest.len=ks.len)∧(eB l j rest.flat)∧(rest.ok)∧(ss+rest.sz=ks.sz)∧(oc.length=l.length)∧(l8 oc j rest.zs=l8 es (at_+1) ks.zs)∧(j+rest.flat.length=at_+1+ks.flat.length)∧(rest.flat.length≤m)) (ks.len) ?_ ?_
  ·exact⟨0,at_+1,0,ks,es,rfl,(by have:=hH.front at1;exact this),rfl,by omega,iO,kU,by omega,oz,rfl,rfl,by omega⟩
  rintro mm fr st ⟨i,j,ss,rest,oc,hfr,hH,xS,A1,nY,iy,Bx,xZ,tN,hj,Hp⟩;rw[hfr];clear hfr;generalize aD fr=ee;clear fr;refine zQ 4 ?_
  cases rest with
  |nil=>
   simp only[a7.len] at A1;simp only[a7.sz] at Bx;simp only[a7.flat,List.length_nil] at hj;simp only[a7.zs,yQ] at tN;have hcc:decide ((i:Int)<n.kids)=false:=by rw[decide_eq_false_iff_not];omega
   refine qq<|qE rfl (by rw[hcc]) ?_;refine zQ 1 ?_;obtain rfl:ss=ks.sz:=by omega
   have iO:=nY;refine zQ 6 ?_;refine EvC.merge (fun fr st=>∃(tmp:List (Nat×D)),fr=⟨36,[d,out,.int .i64 (at_:Nat),aD fr 3,aD fr 4,aD fr 5,.int .i64 0,.ptr k7 0 0,.int .i64 (j:Nat),.int .i64 ((ba n (min ks.sz 401) ks.len:Nat):Int),aD fr 10,aD fr 11,aD fr 12,aD fr 13,aD fr 14,aD fr 15,aD fr 16,aD fr 17,aD fr 18,aD fr 19,aD fr 20,aD fr 21,aD fr 22,aD fr 23,aD fr 24,aD fr 25,aD fr 26,aD fr 27,aD fr 28,aD fr 29,aD fr 30,aD fr 31,aD fr 32,aD fr 33,aD fr 34,aD fr 35],tmp⟩∧Has N S2 st (.lst out 1 (oc.map ai)::.box k7 (.mem 0 false (aQ n))::H)) ?_ ?_
   ·refine zQ 7 ?_;generalize hw:min ks.sz 401=w;have MF:w≤401:=by omega
    have fS:ks.len≤9223372036854775→True:=fun _=>trivial
    by_cases q2:n.op=2
    ·have hz:ba n w ks.len=1:=by unfold ba;rw[if_pos (.inl q2)]
     rw[hz];refine qD rfl (by simp[q2]) ?_;refine zQ 1 ?_;refine qD rfl (by simp[q2]) ?_;refine zQ 3 ?_;exact⟨_,rfl,hH⟩
    refine qE rfl (by simp[q2]) ?_;refine zQ 5 ?_
    by_cases q7:n.op=7
    ·have hz:ba n w ks.len=1:=by unfold ba;rw[if_pos (.inr (.inl q7))]
     rw[hz];refine qD rfl (by simp[q7]) ?_;refine zQ 1 ?_;refine qD rfl (by simp[q7]) ?_;refine zQ 3 ?_;exact⟨_,rfl,hH⟩
    refine qE rfl (by simp[q7]) ?_;refine zQ 4 ?_
    by_cases q8:n.op=8
    ·have hz:ba n w ks.len=1:=by unfold ba;rw[if_pos (.inr (.inr q8))]
     rw[hz];refine qD rfl (by simp[q8]) ?_;refine zQ 3 ?_;exact⟨_,rfl,hH⟩
    refine qE rfl (by simp[q8]) ?_
    have hz0:ba n w ks.len=if n.op=4 then w+2*(ks.len-1) else if n.op=6 then w+2 else if n.op=5 then(if n.mx=-1 then n.mn.toNat*w+w+2 else n.mn.toNat*w+(n.mx.toNat-n.mn.toNat)*(w+1)) else w:=by
     unfold ba;rw[if_neg (by omega)]
    rw[hz0];clear hz0;obtain⟨_,gM⟩:=mT;have hq:(n.op=1∧ks.len=0)∨((n.op=3∨n.op=4)∧2≤ks.len)∨(n.op=5∧ks.len=1∧0≤n.mn∧n.mn≤30∧(n.mx=-1∨(n.mn≤n.mx∧n.mx≤30)))∨(n.op=6∧ks.len=1∧1≤n.cap∧n.cap≤4):=by omega
    refine zQ 5 ?_
    by_cases q4:n.op=4
    ·rw[if_pos q4];have hk2:2≤ks.len:=by omega
     refine qD rfl (by simp[q4]) ?_;refine zQ 4 ?_;refine EvO.ky (z:=((ks.len-1:Nat):Int)) rfl (ev rfl) (ev rfl) (by(try simp only[List.length_reverse,List.length_cons,List.length_nil,List.length_append,List.length_map,List.length_set]);rw[wrap_i64 (by omega) (by omega)]<;>omega) (put_T rfl _) ?_;refine EvO.xx (z:=((2*(ks.len-1):Nat):Int)) rfl (ev rfl) (ev rfl) (by(try simp only[List.length_reverse,List.length_cons,List.length_nil,List.length_append,List.length_map,List.length_set]);rw[wrap_i64 (by omega) (by omega)]<;>omega) (put_T rfl _) ?_;refine EvO.gI (z:=((w+2*(ks.len-1):Nat):Int)) rfl (ev rfl) (ev rfl) (by(try simp only[List.length_reverse,List.length_cons,List.length_nil,List.length_append,List.length_map,List.length_set]);rw[wrap_i64 (by omega) (by omega)]<;>omega) (put_T rfl _) ?_;refine zQ 2 ?_;exact⟨_,rfl,hH⟩
    rw[if_neg q4];refine qE rfl (by simp[q4]) ?_;refine zQ 5 ?_
    by_cases q6:n.op=6
    ·rw[if_pos q6];refine qD rfl (by simp[q6]) ?_;refine zQ 5 ?_;exact⟨_,rfl,hH⟩
    rw[if_neg q6];refine qE rfl (by simp[q6]) ?_;refine zQ 5 ?_
    by_cases q5:n.op=5
    ·rw[if_pos q5];refine qD rfl (by simp[q5]) ?_;refine zQ 6 ?_;have BA:0≤n.mn∧n.mn≤30∧(n.mx=-1∨(n.mn≤n.mx∧n.mx≤30)):=by omega
     obtain⟨a,ha⟩:∃a:Nat,n.mn=(a:Int):=Int.eq_ofNat_of_zero_le BA.1;have II:n.mn.toNat=a:=by omega
     have h1:a*w≤30*401:=Nat.mul_le_mul (by omega) MF;have hmul:n.mn*(w:Int)=((a*w:Nat):Int):=by rw[ha];push_cast;rfl
     rw[II]
     by_cases B':n.mx=-1
     ·rw[if_pos B'];refine qD rfl (by simp[B']) ?_;refine zQ 4 ?_;refine EvO.xx (z:=((a*w:Nat):Int)) rfl (ev rfl) (ev rfl) (by(try simp only[List.length_reverse,List.length_cons,List.length_nil,List.length_append,List.length_map,List.length_set]);rw[wrap_i64 (by omega) (by omega)]<;>omega) (put_T rfl _) ?_;refine qm ?_;refine EvO.gI (z:=((a*w+w:Nat):Int)) rfl (ev rfl) (ev rfl) (by(try simp only[List.length_reverse,List.length_cons,List.length_nil,List.length_append,List.length_map,List.length_set]);rw[wrap_i64 (by omega) (by omega)]<;>omega) (put_T rfl _) ?_;refine EvO.gI (z:=((a*w+w+2:Nat):Int)) rfl (ev rfl) (ev rfl) (by(try simp only[List.length_reverse,List.length_cons,List.length_nil,List.length_append,List.length_map,List.length_set]);rw[wrap_i64 (by omega) (by omega)]<;>omega) (put_T rfl _) ?_;refine zQ 2 ?_;exact⟨_,rfl,hH⟩
     ·rw[if_neg B'];obtain⟨b,hb⟩:∃b:Nat,n.mx=(b:Int):=Int.eq_ofNat_of_zero_le (by omega);have Sb:n.mx.toNat=b:=by omega
      have h2:(b-a)*(w+1)≤30*402:=Nat.mul_le_mul (by omega) (by omega);rw[Sb];refine qE rfl (by simp[B']) ?_;refine zQ 4 ?_;refine EvO.xx (z:=((a*w:Nat):Int)) rfl (ev rfl) (ev rfl) (by(try simp only[List.length_reverse,List.length_cons,List.length_nil,List.length_append,List.length_map,List.length_set]);rw[wrap_i64 (by omega) (by omega)]<;>omega) (put_T rfl _) ?_;refine zQ 4 ?_;refine EvO.ky (z:=((b-a:Nat):Int)) rfl (ev rfl) (ev rfl) (by(try simp only[List.length_reverse,List.length_cons,List.length_nil,List.length_append,List.length_map,List.length_set]);rw[wrap_i64 (by omega) (by omega)]<;>omega) (put_T rfl _) ?_;refine qm ?_;refine EvO.gI (z:=((w+1:Nat):Int)) rfl (ev rfl) (ev rfl) (by(try simp only[List.length_reverse,List.length_cons,List.length_nil,List.length_append,List.length_map,List.length_set]);rw[wrap_i64 (by omega) (by omega)]<;>omega) (put_T rfl _) ?_;refine EvO.xx (z:=(((b-a)*(w+1):Nat):Int)) rfl (ev rfl) (ev rfl) (by(try simp only[List.length_reverse,List.length_cons,List.length_nil,List.length_append,List.length_map,List.length_set]);rw[wrap_i64 (by omega) (by omega)]<;>omega) (put_T rfl _) ?_;refine EvO.gI (z:=((a*w+(b-a)*(w+1):Nat):Int)) rfl (ev rfl) (ev rfl) (by(try simp only[List.length_reverse,List.length_cons,List.length_nil,List.length_append,List.length_map,List.length_set]);rw[wrap_i64 (by omega) (by omega)]<;>omega) (put_T rfl _) ?_;refine zQ 2 ?_;exact⟨_,rfl,hH⟩
    ·rw[if_neg q5];refine qE rfl (by simp[q5]) ?_;refine zQ 1 ?_;exact⟨_,rfl,hH⟩
   ·rintro fr st ⟨tmp,hfr,hH⟩;rw[hfr];clear hfr;generalize aD fr=ee;clear fr;have kg:=F8 (n:=n) (k:=ks.len) (s:=ks.sz);have gC:at_<oc.length:=by omega
    obtain⟨w,hw⟩:∃w,oc[at_]?=some w:=⟨oc[at_]'gC,List.getElem?_eq_getElem _⟩
    have Sr:=dX hw;refine zQ 5 ?_;refine EvO.Jo (z:=((min (ba n ks.sz ks.len) 401:Nat):Int)) (t1:=_) (t2:=_) rfl (ev rfl) (ev rfl) (by omega) (put_T rfl _) ?_;refine qi hH at0 fun Ru Nf=>?_;refine EvO.iK hH rfl (ev rfl) (ev rfl) (by assumption) rfl rfl (by exact at0) (by assumption) (Nat.le_of_ble_eq_true rfl) (by exact .inr rfl) (fun st hH=>?_);dsimp only[u2,u1,u3,u4,setMany,u5,u6,D.cells,Nat.reduceAdd,aQ,ai] at hH;refine zQ 6 ?_;refine EvC.ret ⟨rx,_,_,_,rfl,ae (rfl),?_⟩;have NT:j=at_+(Tr.mk n ks).flat.length:=by simp only[Tr.flat,List.length_cons];omega
    refine⟨by rw[NT];rfl,?_⟩
    have fp:l8 es at_ (Tr.zs (.mk n ks))=oc.set at_ ((min (ba n ks.sz ks.len) 401:Nat):Int):=by
     rw[tN,yP (by rw[a7.gU];omega)];rfl
    rw[fp,List.map_set];exact bP.vD bO (hH.erase 1)
  |cons t ts=>
   simp only[a7.len] at A1 xS;simp only[a7.sz] at Bx;simp only[a7.flat,List.length_append] at hj nY Hp;simp only[a7.zs] at tN;simp only[a7.ok] at iy;have hcc:decide ((i:Int)<n.kids)=true:=by rw[decide_eq_true_eq];omega
   have MO:=t.gy;have Hg:=t.gU;have Jz:=ts.gU;have HR:(l8 oc j t.zs).length=l.length:=by rw[yR (by omega)];exact xZ
   have RZ:(l8 oc j t.zs)[j]?=some ((min t.sz 401:Nat):Int):=by
    obtain⟨n',Jv⟩:=t;simp only[Tr.zs,Tr.sz];exact EI (by omega)
   have Ss:=dX RZ;refine qq<|qD rfl (by rw[hcc]) ?_;refine zQ 13 ?_;obtain⟨_,st,hev,rfl,hH⟩:=ih t (by omega) iy.1 nY.left xZ hH;refine qv hev ?_;refine zQ 6 ?_;refine qi hH at0 fun RI Nw=>?_;refine zQ 1 ?_;refine EvO.gI (z:=((min ss 401+min t.sz 401:Nat):Int)) rfl (ev rfl) (ev rfl) (by(try simp only[List.length_reverse,List.length_cons,List.length_nil,List.length_append,List.length_map,List.length_set]);rw[wrap_i64 (by omega) (by omega)]<;>omega) (by dsimp only[Fr.put,u1,u2]<;>rfl) ?_;refine EvO.Jo (z:=((min (ss+t.sz) 401:Nat):Int)) (t1:=_) (t2:=_) rfl (ev rfl) (ev rfl) (by omega) (by dsimp only[Fr.put,u1,u2]<;>rfl) ?_;refine zQ 6 ?_;exact⟨mm-1,by omega,⟨i+1,j+t.flat.length,ss+t.sz,ts,l8 oc j t.zs,rfl,hH,by omega,by omega,nY.right,iy.2,by omega,HR,by rw[←tN];have:=yO (es:=oc) (a:=j) (M:=t.zs) (M':=ts.zs) (by omega);rw[Hg] at this;exact this,by omega,by omega⟩⟩
theorem FY {l:List Nod} {d:D} (hl:l.length≤1048576) (hi:∀n∈l,n.ok) (hd:SlD d 7 (l.map aQ)):∀(m:Nat) (t:Tr),t.flat.length≤m→t.ok→∀{N:Nat} {S s0:St} {H:List aN} {out:D} {es:List Int} {at_:Nat},eB l at_ t.flat→es.length=l.length→Has N S s0 (.lst out 1 (es.map ai)::H)→
  ∃r ab,Ev pv 45 [d,out,.int .i64 (at_:Nat)] s0 r ab∧r=.int .i64 ((at_+t.flat.length:Nat):Int)∧Has N S ab (.lst out 1 ((l8 es at_ (t.es at_)).map ai)::H):=by
 intro m
 induction m with
 |zero=>intro t h;have:=t.gy;omega
 |succ m ih=>
  rintro⟨n,ks⟩ hm hok N S s0 H out es at_ iO oz hH;simp only[Tr.ok] at hok;obtain⟨mT,kU⟩:=hok;simp only[Tr.flat,List.length_cons] at hm;have hle:=iO.le (by simp[Tr.flat]);simp only[Tr.flat] at iO hle;simp only[List.length_cons] at hle;have hn:=iO.head;have iO:=iO.tail;have J4:=hi n (List.mem_of_getElem? hn);have hr1:=j6 hn;have HH:=mT.1;have kJ:=a7.jx ks;refine Ev.fX rfl Ph rfl rfl rfl ?_;refine zE ?_;have bP:=hH;have hH:=hH.bT;have bO:(enterSt .rw s0).bs=s0.bs:=rfl;generalize enterSt .rw s0=S2 at*;have hc:=hd.arg N S2;refine zQ 15 ?_;refine qr fun Qc J0=>?_;refine qf (fo:=6) fun RM NB=>?_;refine zQ 4 ?_;refine EvC.loop (fun mm fr st=>∃(i j:Nat) (rest:a7) (oc:List Int),fr.clean=⟨16,[d,out,.int .i64 (at_:Nat),aD fr 3,aD fr 4,aD fr 5,.int .i64 0,.int .i64 (j:Nat),aD fr 8,aD fr 9,aD fr 10,aD fr 11,aD fr 12,aD fr 13,.int .i64 n.kids,.int .i64 (i:Nat)],[]⟩∧Has N S2 st (.lst out 1 (oc.map ai)::H)∧(mm=rest.len)∧(i+rest.len=ks.len)∧(eB l j rest.flat)∧(rest.ok)∧(oc.length=l.length)∧(l8 oc j (rest.es j)=l8 es (at_+1) (ks.es (at_+1)))∧(j+rest.flat.length=at_+1+ks.flat.length)∧(rest.flat.length≤m)) (ks.len) ?_ ?_
  ·exact⟨0,at_+1,ks,es,rfl,hH,rfl,by omega,iO,kU,oz,rfl,rfl,by omega⟩
  rintro mm fr st ⟨i,j,rest,oc,hfr,hH,xS,A1,nY,iy,xZ,tN,hj,Hp⟩;rw[hfr];clear hfr;generalize aD fr=ee;clear fr;refine zQ 4 ?_
  cases rest with
  |nil=>
   simp only[a7.len] at A1;simp only[a7.flat,List.length_nil] at hj;simp only[a7.es,yQ] at tN;have hcc:decide ((i:Int)<n.kids)=false:=by rw[decide_eq_false_iff_not];omega
   have gC:at_<oc.length:=by omega
   obtain⟨w,hw⟩:∃w,oc[at_]?=some w:=⟨oc[at_]'gC,List.getElem?_eq_getElem _⟩
   have Sr:=dX hw;refine qq<|qE rfl (by rw[hcc]) ?_;refine zQ 6 ?_;refine qi hH at0 fun IE AX=>?_;refine EvO.iK hH rfl (ev rfl) (ev rfl) (by assumption) rfl rfl (by exact at0) (by assumption) (Nat.le_of_ble_eq_true rfl) (by exact .inr rfl) (fun st hH=>?_);dsimp only[u2,u1,u3,u4,setMany,u5,u6,D.cells,Nat.reduceAdd,aQ,ai] at hH;refine zQ 6 ?_;refine EvC.ret ⟨rx,_,_,_,rfl,ae (rfl),?_⟩;have NT:j=at_+(Tr.mk n ks).flat.length:=by simp only[Tr.flat,List.length_cons];omega
   refine⟨by rw[NT];rfl,?_⟩
   have fp:l8 es at_ (Tr.es (.mk n ks) at_)=oc.set at_ ((j:Nat):Int):=by
    rw[tN,yP (by rw[a7.g_];omega)];have:j=at_+1+ks.flat.length:=by omega
    rw[this];rfl
   rw[fp,List.map_set];exact bP.vD bO hH
  |cons t ts=>
   simp only[a7.len] at A1 xS;simp only[a7.flat,List.length_append] at hj nY Hp;simp only[a7.es] at tN;simp only[a7.ok] at iy;have hcc:decide ((i:Int)<n.kids)=true:=by rw[decide_eq_true_eq];omega
   have MO:=t.gy;have Hg:=t.g_ j;have Jz:=ts.g_ (j+t.flat.length);have HR:(l8 oc j (t.es j)).length=l.length:=by rw[yR (by omega)];exact xZ
   refine qq<|qD rfl (by rw[hcc]) ?_;refine zQ 7 ?_;obtain⟨_,st,hev,rfl,hH⟩:=ih t (by omega) iy.1 nY.left xZ hH;refine qv hev ?_;refine zQ 6 ?_;exact⟨mm-1,by omega,⟨i+1,j+t.flat.length,ts,l8 oc j (t.es j),rfl,hH,by omega,by omega,nY.right,iy.2,HR,by rw[←tN];have:=yO (es:=oc) (a:=j) (M:=t.es j) (M':=ts.es (j+t.flat.length)) (by omega);rw[Hg] at this;exact this,by omega,by omega⟩⟩
theorem fv {N k:Nat} {S s0:St} {H:List aN} {ks:Nat→Prop} {cd nd zd ed w:D} {code:List aA} {op x y:Int} {rs:List Rg} (hF:S.flr≤N) (hl:code.length≤1048576) (hH:Has N S s0 (.lst w 2 (rs.map aj)::.box k (.mem 0 false [cd,nd,zd,ed])::.deep ks cd 4 (code.map aB)::H)):
  ∃r ab,Ev pv 46 [.ptr k 0 0,.agg [.int .i64 op,.int .i64 x,.int .i64 y,w]] s0 r ab∧r=.int .i64 (code.length:Nat)∧∃QU Jv,Has N S ab (.box k (.mem 0 false [QU,nd,zd,ed])::.deep Jv QU 4 ((code++[cq op x y rs]).map aB)::H):=by
 refine Ev.fX rfl Pf rfl rfl rfl ?_;refine zE ?_;change EvC _ _ _ _ s0 _;refine zQ 2 ?_;refine qb hH fun k3 st BB hH=>?_;refine zQ 9 ?_;refine EvO.hloadS (m:=4) hH rfl (ev rfl) (by exact at0) (by dsimp only[List.drop_succ_cons,List.drop_zero,List.take_succ_cons,List.take_zero,aB]<;>rfl) rfl rfl (put_T rfl _) ?_;refine qh (s:=4) (vs:=[_]) hH fun k11 st hk11 hH=>?_;obtain⟨hH,Of⟩:=hH.D7 (i:=2) (j:=4) (by decide) at2 at4 (dr _);dsimp only[u1,u2] at hH;refine EvO.oB hH rfl (ev rfl) (ev rfl) at4 (hH.rows at0) (.cons (.cons (.plain _ rfl) (.cons (.plain _ rfl) (.cons (.plain _ rfl) (.cons Of .nil)))) .nil) rfl rfl rfl rfl rfl rfl rfl ⟨(Nat.le_of_ble_eq_true rfl),(Nat.le_of_ble_eq_true rfl)⟩ (fun _=>(put_T rfl _)) (by simp only[List.length_map,List.length_cons,List.length_nil];omega) (.inl hF) (fun Va st hH=>?_);dsimp only[u1,u2] at hH;refine zQ 2 ?_;refine EvO.pJ hH rfl (ev rfl) (ev rfl) (by exact hH.dcells (by exact at4)) (by exact rfl) (by exact at3) (by exact Nat.le_of_ble_eq_true rfl) (by exact .inl hF) (fun st hH=>?_);dsimp only[u2,u1,u3,u4,setMany,u5,u6,D.cells,Nat.reduceAdd,aB] at hH;refine zQ 7 ?_;refine EvO.Bh hH rfl (ev rfl) (by exact at4) rfl (put_T rfl _) ?_;simp only[List.length_map,List.length_append,List.length_cons,List.length_nil];refine EvO.ky (z:=((code.length:Nat):Int)) rfl (ev rfl) (ev rfl) (by(try simp only[List.length_reverse,List.length_cons,List.length_nil,List.length_append,List.length_map,List.length_set]);rw[wrap_i64 (by omega) (by omega)]<;>omega) (put_T rfl _) ?_;refine zQ 2 ?_;refine EvC.ret ⟨rx,_,_,_,rfl,rfl,?_⟩;exact⟨rfl,_,_,by rw[List.map_append];exact hH.drop 3⟩
theorem oN {N k:Nat} {S s0:St} {H:List aN} {ks:Nat→Prop} {cd nd zd ed:D} {code:List aA} {at_ over:Nat} {lz:Bool} {x y:Int} (gC:code[at_]?=some (cq 2 x y [])) (hl:code.length≤1048576) (hH:Has N S s0 (.box k (.mem 0 false [cd,nd,zd,ed])::.deep ks cd 4 (code.map aB)::H)):
  ∃r ab,Ev pv 114 [.ptr k 0 0,.int .i64 (at_:Nat),.int .i64 (over:Nat),.bool lz] s0 r ab∧r=.tup []∧Has N S ab (.box k (.mem 0 false [cd,nd,zd,ed])::.deep ks cd 4 ((code.set at_ (mf at_ over lz)).map aB)::H):=by
 have hlt:=lt_get gC;have hr1:(code.map aB)[at_]?=some [.int .i64 2,.int .i64 x,.int .i64 y,.sl []]:=fY gC;have fp:∀a b:List D,(code.map aB).set at_ a=(code.map aB).set at_ a:=fun _ _=>rfl;refine Ev.fX rfl Lh rfl rfl rfl ?_;refine zE ?_;have bP:=hH;have hH:=hH.bT;have bO:(enterSt .rw s0).bs=s0.bs:=rfl;generalize enterSt .rw s0=S2 at*;refine zQ 13 ?_;refine EvO.gI (z:=((at_+1:Nat):Int)) rfl (ev rfl) (ev rfl) (by(try simp only[List.length_reverse,List.length_cons,List.length_nil,List.length_append,List.length_map,List.length_set]);rw[wrap_i64 (by omega) (by omega)]<;>omega) (put_T rfl _) ?_;refine qm ?_;refine EvO.DK (s:=4) hH rfl (ev rfl) (ev rfl) (by exact at1) rfl rfl (by exact lt_get (by assumption)) (fun _=>(put_T rfl _)) (fun Mp Hy=>?_);refine EvO.fx (fo:=1) (m:=0) (o2:=1) rfl (ev rfl) (by assumption) rfl rfl rfl (fun _=>(put_T rfl _)) (fun LF FD=>?_);refine EvO.qw hH rfl (ev rfl) (ev rfl) (by assumption) rfl rfl (by exact at1) (by assumption) (Nat.le_of_ble_eq_true rfl) (by intro d hd;simp only[List.mem_cons,List.not_mem_nil,or_false] at hd;subst hd;rfl) (by exact .inr rfl) (fun st hH=>?_);dsimp only[u2,u1,u3,u4,setMany,u5,u6,D.cells,Nat.reduceAdd,aB] at hH;refine EvO.DK (s:=4) hH rfl (ev rfl) (ev rfl) (by exact at1) rfl rfl (by simp only[List.length_map,List.length_set]<;>omega) (fun _=>(put_T rfl _)) (fun Mo Hx=>?_);refine EvO.fx (fo:=2) (m:=0) (o2:=2) rfl (ev rfl) (by assumption) rfl rfl rfl (fun _=>(put_T rfl _)) (fun IF AY=>?_);refine EvO.qw hH rfl (ev rfl) (ev rfl) (by assumption) rfl rfl (by exact at1) (List.getElem?_set_self (by simp only[List.length_set,List.length_map];omega)) (Nat.le_of_ble_eq_true rfl) (by intro d hd;simp only[List.mem_cons,List.not_mem_nil,or_false] at hd;subst hd;rfl) (by exact .inr rfl) (fun st hH=>?_);dsimp only[u1,u2,setMany] at hH;rw[List.set_set] at hH;refine zQ 5 ?_
 cases lz with
 |false=>
  refine zQ 2 ?_;refine⟨fun i h=>(by cases h),_,_,_,rfl,ae rfl,?_⟩;exact⟨rfl,by rw[List.map_set];exact bP.vE bO hH⟩
 |true=>
  refine zQ 14 ?_;refine EvO.gI (z:=((at_+1:Nat):Int)) rfl (ev rfl) (ev rfl) (by(try simp only[List.length_reverse,List.length_cons,List.length_nil,List.length_append,List.length_map,List.length_set]);rw[wrap_i64 (by omega) (by omega)]<;>omega) (put_T rfl _) ?_;refine EvO.DK (s:=4) hH rfl (ev rfl) (ev rfl) (by exact at1) rfl rfl (by simp only[List.length_map,List.length_set]<;>omega) (fun _=>(put_T rfl _)) (fun RE Ns=>?_);refine EvO.fx (fo:=1) (m:=0) (o2:=1) rfl (ev rfl) (by assumption) rfl rfl rfl (fun _=>(put_T rfl _)) (fun RD Nr=>?_);refine EvO.qw hH rfl (ev rfl) (ev rfl) (by assumption) rfl rfl (by exact at1) (List.getElem?_set_self (by simp only[List.length_set,List.length_map];omega)) (Nat.le_of_ble_eq_true rfl) (by intro d hd;simp only[List.mem_cons,List.not_mem_nil,or_false] at hd;subst hd;rfl) (by exact .inr rfl) (fun st hH=>?_);dsimp only[u1,u2,setMany] at hH;rw[List.set_set] at hH;refine EvO.DK (s:=4) hH rfl (ev rfl) (ev rfl) (by exact at1) rfl rfl (by simp only[List.length_map,List.length_set]<;>omega) (fun _=>(put_T rfl _)) (fun VB SU=>?_);refine EvO.fx (fo:=2) (m:=0) (o2:=2) rfl (ev rfl) (by assumption) rfl rfl rfl (fun _=>(put_T rfl _)) (fun RC Nq=>?_);refine EvO.qw hH rfl (ev rfl) (ev rfl) (by assumption) rfl rfl (by exact at1) (List.getElem?_set_self (by simp only[List.length_set,List.length_map];omega)) (Nat.le_of_ble_eq_true rfl) (by intro d hd;simp only[List.mem_cons,List.not_mem_nil,or_false] at hd;subst hd;rfl) (by exact .inr rfl) (fun st hH=>?_);dsimp only[u1,u2,setMany] at hH;rw[List.set_set] at hH;refine zQ 1 ?_;refine⟨fun i h=>(by cases h),_,_,_,rfl,ae rfl,?_⟩;exact⟨rfl,by rw[List.map_set];exact bP.vE bO hH⟩
def ag (fr:Go.V.Fr) (k:Nat):Go.V.D:=Go.V.nth .junk fr.loc k
def jt (n:Nat):List D:=[.int .i64 (n:Nat)]
theorem vq {l:List Nat} {i q:Nat} (h:l[i]?=some q):(l.map jt)[i]?=some (jt q):=by rw[List.getElem?_map,h];rfl
def I3 (N:Nat) (S st:St) (k:Nat) (nd zd ed:D) (Z E:List Int) (H:List aN) (code:List aA):Prop:=
 ∃cd ks,Has N S st (.box k (.mem 0 false [cd,nd,zd,ed])::.deep ks cd 4 (code.map aB)::.lst zd 1 (Z.map ai)::.lst ed 1 (E.map ai)::H)
def rj (l:List Nod) (t:Tr):Prop:=∀{N k:Nat} {S s0:St} {H:List aN} {nd zd ed:D} {code:List aA} {Z E:List Int} {at_:Nat},S.flr≤N→SlD nd 7 (l.map aQ)→eB l at_ t.flat→eB Z at_ t.zs→eB E at_ (t.es at_)→t.ok→code.length+t.sz≤1000000→I3 N S s0 k nd zd ed Z E H code→
 ∃r ab,Ev pv 47 [.ptr k 0 0,.int .i64 (at_:Nat)] s0 r ab∧r=.tup []∧I3 N S ab k nd zd ed Z E H (code++aE t code.length)
theorem zz {E:List Int} {t:Tr} {a:Nat} (h:eB E a (t.es a)):E[a]?=some ((a+t.flat.length:Nat):Int):=by
 obtain⟨n,ks⟩:=t;simp only[Tr.es] at h;rw[h.head];simp only[Tr.flat,List.length_cons]
 congr 2;omega
theorem yI {Z:List Int} {t:Tr} {a:Nat} (h:eB Z a t.zs):Z[a]?=some ((min t.sz 401:Nat):Int):=by
 obtain⟨n,ks⟩:=t;simp only[Tr.zs] at h;rw[h.head];rfl
theorem Iu {l:List Nod} (hll:l.length≤1048576) {m:Nat} (ih:∀t:Tr,t.flat.length≤m→rj l t) {n:Nod} {ks:a7} (eT:n.op=4) (NL:ks.flat.length≤m) (mT:vl n ks.len) (kU:ks.ok) {N k:Nat} {S s0:St} {H:List aN} {nd zd ed:D} {code:List aA} {Z E:List Int} {at_:Nat} (hF:S.flr≤N) (hnd:SlD nd 7 (l.map aQ)) (iN:eB l at_ (n::ks.flat)) (hsz:eB Z (at_+1) ks.zs) (ui:eB E (at_+1) (ks.es (at_+1))) (hb:code.length+ba n ks.sz ks.len≤1000000) (hM:I3 N S s0 k nd zd ed Z E H code):
  ∃r ab,Ev pv 89 [.ptr k 0 0,.int .i64 (at_:Nat)] s0 r ab∧r=.tup []∧I3 N S ab k nd zd ed Z E H (code++dD (lE (code.length+ba n ks.sz ks.len)) ks code.length):=by
 obtain⟨cd,dk,hH⟩:=hM;have hle:=iN.le (by simp);simp only[List.length_cons] at hle;have hn:=iN.head;have iN:=iN.tail;have hr1:=j6 hn;have HH:=mT.1;have fS:=a7.jx ks
 have hk2:2≤ks.len:=by
  obtain⟨_,hq⟩:=mT;omega
 have FH:ba n ks.sz ks.len=ks.sz+2*(ks.len-1):=by unfold ba;rw[if_neg (by omega),if_pos eT]
 rw[FH] at hb⊢;clear FH;refine Ev.fX rfl OV rfl rfl rfl ?_;refine zE ?_;change EvC _ _ _ _ s0 _;have hc:=hnd.arg N S;refine zQ 18 ?_;refine qr fun RK Nz=>?_;refine qf (fo:=6) fun Qb JZ=>?_;refine zQ 3 ?_;have hH:Has N S s0 (.box k (.mem 0 false [cd,nd,zd,ed])::.deep dk cd 4 (code.map aB)::.lst zd 1 (Z.map ai)::.lst ed 1 (E.map ai)::.lst .nul 1 (([]:List Nat).map jt)::H):=(hH.nulE 1).ES;refine zQ 1 ?_;refine EvC.loop (fun mm fr st=>∃(i j:Nat) (rest:a7) (cd jd:D) (dk:Nat→Prop) (aJ:List aA) (js:List Nat),fr.clean=⟨68,[.ptr k 0 0,.int .i64 (at_:Nat),ag fr 2,ag fr 3,jd,.int .i64 (j:Nat),ag fr 6,ag fr 7,ag fr 8,ag fr 9,ag fr 10,ag fr 11,ag fr 12,ag fr 13,ag fr 14,ag fr 15,ag fr 16,ag fr 17,ag fr 18,.int .i64 n.kids,.int .i64 (i:Nat),ag fr 21,ag fr 22,ag fr 23,ag fr 24,ag fr 25,ag fr 26,ag fr 27,ag fr 28,ag fr 29,ag fr 30,ag fr 31,ag fr 32,ag fr 33,ag fr 34,ag fr 35,ag fr 36,ag fr 37,ag fr 38,ag fr 39,ag fr 40,ag fr 41,ag fr 42,ag fr 43,ag fr 44,ag fr 45,ag fr 46,ag fr 47,ag fr 48,ag fr 49,ag fr 50,ag fr 51,ag fr 52,ag fr 53,ag fr 54,ag fr 55,ag fr 56,ag fr 57,ag fr 58,ag fr 59,ag fr 60,ag fr 61,ag fr 62,ag fr 63,ag fr 64,ag fr 65,ag fr 66,ag fr 67],[]⟩∧Has N S st (.box k (.mem 0 false [cd,nd,zd,ed])::.deep dk cd 4 (aJ.map aB)::.lst zd 1 (Z.map ai)::.lst ed 1 (E.map ai)::.lst jd 1 (js.map jt)::H)∧(mm=rest.len)∧(i+rest.len=ks.len)∧(0<rest.len)∧(eB l j rest.flat)∧(eB Z j rest.zs)∧(eB E j (rest.es j))∧(rest.ok)∧(aJ++dD (lE 0) rest aJ.length=code++dD (lE 0) ks code.length)∧(js++q_ rest aJ.length=q_ ks code.length)∧(aJ.length+(rest.sz+2*(rest.len-1))=code.length+(ks.sz+2*(ks.len-1)))∧(rest.flat.length≤m)∧(js.length≤i)) (ks.len) ?_ ?_
 ·exact⟨0,at_+1,ks,cd,.nul,dk,code,[],rfl,hH,rfl,by omega,by omega,iN,hsz,ui,kU,rfl,rfl,rfl,NL,by simp⟩
 rintro mm fr st ⟨i,j,rest,cd,jd,dk,aJ,js,hfr,hH,xS,A1,LO,nY,vI,nX,iy,gx,hjs,hcl,Hp,iS⟩;rw[hfr];clear hfr;generalize ag fr=ee;clear fr;refine zQ 4 ?_
 cases rest with
 |nil=>simp[a7.len] at LO
 |cons t ts=>
  simp only[a7.len] at A1 xS hcl;simp only[a7.sz] at hcl;simp only[a7.flat,List.length_append] at nY Hp;simp only[a7.zs] at vI;simp only[a7.es] at nX;simp only[a7.ok] at iy;have Hg:=t.gU;have JI:=t.g_ j;have AV:=bN t (aJ.length+1) iy.1;have M_:=dX (zz nX.left);have hcc:decide ((i:Int)<n.kids)=true:=by rw[decide_eq_true_eq];omega
  refine qq<|qD rfl (by rw[hcc]) ?_;refine zQ 17 ?_;refine qr fun RI Nw=>?_;refine qf (fo:=6) fun Qa JY=>?_;refine qR ?_;refine EvO.ky (z:=((ks.len-1:Nat):Int)) rfl (ev rfl) (ev rfl) (by(try simp only[List.length_reverse,List.length_cons,List.length_nil,List.length_append,List.length_map,List.length_set]);rw[wrap_i64 (by omega) (by omega)]<;>omega) (by dsimp only[Fr.put,u1,u2]<;>rfl) ?_;refine zQ 2 ?_
  by_cases zm:ts.len=0
  ·simp only[dD,q_,if_pos zm,List.append_nil] at gx hjs;have Sa:=a7.len_nil zm;subst Sa;simp only[a7.sz,a7.len] at hcl A1;have HT:(((i:Nat):Int)==((ks.len-1:Nat):Int))=true:=by rw[beq_iff_eq];omega
   refine qD rfl (by rw[HT]) ?_;refine zQ 4 ?_;obtain⟨_,st,hev,rfl,cd,dk,hH⟩:=ih t (by omega) hF hnd nY.left vI.left nX.left iy.1 (by omega) ⟨cd,dk,hH⟩;refine qv hev ?_;refine zQ 5 ?_;refine qn ?_ (hR:=hH.rows at4);simp only[List.length_map];refine zQ 2 ?_;rw[gx] at hH;have hal:=qZ (lE 0) ks code.length kU;obtain⟨C8,Em⟩:=nf (jp:=lE (code.length+(ks.sz+2*(ks.len-1)))) (i0:=lE 0) ks code.length code [] kU rfl;simp only[List.append_nil] at C8 Em;have OK:(code++dD (lE 0) ks code.length).length=code.length+(ks.sz+2*(ks.len-1)):=by rw[List.length_append,hal]
   rw[←hjs] at C8 Em;rw[←C8];clear C8 gx;generalize code++dD (lE 0) ks code.length=C0 at*;generalize code.length+(ks.sz+2*(ks.len-1))=e at*;refine zQ 1 ?_;refine EvC.loop (fun mm fr st=>∃(q:Nat) (C:List aA),fr.clean=⟨68,[.ptr k 0 0,ag fr 1,ag fr 2,ag fr 3,ag fr 4,ag fr 5,ag fr 6,ag fr 7,ag fr 8,ag fr 9,ag fr 10,ag fr 11,ag fr 12,ag fr 13,ag fr 14,ag fr 15,ag fr 16,ag fr 17,ag fr 18,ag fr 19,ag fr 20,ag fr 21,ag fr 22,ag fr 23,ag fr 24,ag fr 25,ag fr 26,ag fr 27,ag fr 28,ag fr 29,ag fr 30,ag fr 31,ag fr 32,ag fr 33,ag fr 34,ag fr 35,ag fr 36,ag fr 37,ag fr 38,ag fr 39,ag fr 40,ag fr 41,ag fr 42,ag fr 43,ag fr 44,ag fr 45,ag fr 46,ag fr 47,ag fr 48,ag fr 49,ag fr 50,ag fr 51,ag fr 52,ag fr 53,ag fr 54,ag fr 55,ag fr 56,ag fr 57,ag fr 58,ag fr 59,ag fr 60,ag fr 61,ag fr 62,ag fr 63,ag fr 64,jd,.int .i64 (js.length:Nat),.int .i64 (q:Nat)],[]⟩∧Has N S st (.box k (.mem 0 false [cd,nd,zd,ed])::.deep dk cd 4 (C.map aB)::.lst zd 1 (Z.map ai)::.lst ed 1 (E.map ai)::.lst jd 1 (js.map jt)::H)∧(q+mm=js.length)∧(gk (fun _=>lE e) C (js.drop q)=gk (fun _=>lE e) C0 js)∧(∀p∈js,∃v:Int,C[p]?=some (cq 3 v 0 []))∧(C.length=e)) (js.length) ?_ ?_
   ·exact⟨0,C0,rfl,hH,by omega,rfl,fun p hp=>⟨_,Em p hp⟩,OK⟩
   rintro mm fr st ⟨q,C,hfr,hH,hq,gG,lM,I1⟩;rw[hfr];clear hfr;generalize ag fr=ee;clear fr;refine zQ 5 ?_;refine zP (fun hlt=>?_) fun hlt=>?_
   ·refine zQ 1 ?_;have FA:q<js.length:=by omega
    obtain⟨p,hp⟩:∃p,js[q]?=some p:=⟨js[q]'FA,List.getElem?_eq_getElem _⟩
    obtain⟨v,hv⟩:=lM p (List.mem_of_getElem? hp);have hr1:=vq hp;have n5:=fY hv;have hpl:=lt_get hv;refine zQ 4 ?_;refine qi hH at4 fun Vo SF=>?_;refine zQ 13 ?_;refine EvO.Bh hH rfl (ev rfl) (by exact at1) rfl (put_T rfl _) ?_;simp only[List.length_map];refine EvO.DK (s:=4) hH rfl (ev rfl) (ev rfl) (by exact at1) rfl rfl (by exact lt_get (by assumption)) (fun _=>(put_T rfl _)) (fun Ru Nf=>?_);refine EvO.fx (fo:=1) (m:=0) (o2:=1) rfl (ev rfl) (by assumption) rfl rfl rfl (fun _=>(put_T rfl _)) (fun Vl SC=>?_);refine EvO.qw hH rfl (ev rfl) (ev rfl) (by assumption) rfl rfl (by exact at1) (by assumption) (Nat.le_of_ble_eq_true rfl) (by intro d hd;simp only[List.mem_cons,List.not_mem_nil,or_false] at hd;subst hd;rfl) (by exact .inl hF) (fun st hH=>?_);dsimp only[u2,u1,u3,u4,setMany,u5,u6,D.cells,Nat.reduceAdd,aB,aQ,ai,jt] at hH;refine zQ 5 ?_
    have vT:js.drop q=p::js.drop (q+1):=by
     rw[List.drop_eq_getElem_cons FA]
     congr 1
     exact Option.some.inj ((List.getElem?_eq_getElem _).symm.trans hp)
    refine⟨mm-1,by omega,⟨q+1,C.set p (lE e),rfl,(by rw[List.map_set,←I1];exact hH),by omega,by rw[vT] at gG;exact gG,?_,by rw[List.length_set];exact I1⟩⟩;intro p' tO
    by_cases hpp:p'=p
    ·subst hpp;exact⟨_,List.getElem?_set_self hpl⟩
    ·rw[List.getElem?_set_ne (fun e=>hpp e.symm)];exact lM p' tO
   ·refine zQ 1 ?_;refine⟨fun i h=>(by cases h),_,_,_,rfl,rfl,?_⟩;have kR:q=js.length:=by omega
    rw[kR,List.drop_length] at gG;have gG:C=gk (fun _=>lE e) C0 js:=gG;rw[←gG];exact⟨rfl,cd,dk,hH.erase 4⟩
  ·simp only[dD,q_,if_neg zm] at gx hjs;have HT:(((i:Nat):Int)==((ks.len-1:Nat):Int))=false:=by rw[beq_eq_false_iff_ne];omega
   refine qE rfl (by rw[HT]) ?_;refine zQ 4 ?_;refine EvO.go (d:=.agg [.int .i64 2,.int .i64 0,.int .i64 0,.nul]) (st1:=_) rfl rfl rfl (by dsimp only[Fr.put,u1,u2]<;>rfl) ?_;have hH:=hH.nulE 2;obtain⟨_,st,hev,rfl,cd,dk,hH⟩:=fv (rs:=[]) hF (by omega) hH;refine qv hev ?_;refine zQ 2 ?_;have lL:(aJ++[cq 2 0 0 []]).length=aJ.length+1:=by simp
   refine zQ 4 ?_;obtain⟨_,st,hev,rfl,cd,dk,hH⟩:=ih t (by omega) hF hnd nY.left vI.left nX.left iy.1 (by omega) ⟨cd,dk,hH⟩;refine qv hev ?_;refine zQ 1 ?_;rw[lL] at hH;have kf:(aJ++[cq 2 0 0 []]++aE t (aJ.length+1)).length=aJ.length+1+t.sz:=by rw[List.length_append,lL,AV]
   refine zQ 4 ?_;refine EvO.go (d:=.agg [.int .i64 3,.int .i64 0,.int .i64 0,.nul]) (st1:=_) rfl rfl rfl (by dsimp only[Fr.put,u1,u2]<;>rfl) ?_;have hH:=hH.nulE 2;obtain⟨_,st,hev,rfl,cd,dk,hH⟩:=fv (rs:=[]) hF (by omega) hH;refine qv hev ?_;refine qh (s:=1) (vs:=[_]) hH fun k47 st Tw hH=>?_;refine qP hH at5 (hH.rows at0) fun Ma st hH=>?_;dsimp only[u2,u1,u3,u4,setMany,u5,u6,D.cells,Nat.reduceAdd,aB,aQ,ai,jt] at hH;refine zQ 2 ?_;have hH:=hH.drop 1
   have HY:(aJ++[cq 2 0 0 []]++aE t (aJ.length+1)++[cq 3 0 0 []])[aJ.length]?=some (cq 2 0 0 []):=by
    rw[List.append_assoc,List.append_assoc];exact oA _ _ _
   have A6:(aJ++[cq 2 0 0 []]++aE t (aJ.length+1)++[cq 3 0 0 []]).length=aJ.length+1+t.sz+1:=by rw[List.length_append,kf];rfl
   have Fv:(aJ++[cq 2 0 0 []]++aE t (aJ.length+1)++[cq 3 0 0 []]).set aJ.length (mf aJ.length (aJ.length+1+t.sz+1) false)=aJ++(mf aJ.length (aJ.length+1+t.sz+1) false::(aE t (aJ.length+1)++[lE 0])):=by
    rw[List.append_assoc,List.append_assoc];exact oq _ _ _ _
   have Dp:(aJ++(mf aJ.length (aJ.length+1+t.sz+1) false::(aE t (aJ.length+1)++[lE 0]))).length=aJ.length+t.sz+2:=by rw[←Fv,List.length_set,A6];omega
   generalize aJ++[cq 2 0 0 []]++aE t (aJ.length+1)++[cq 3 0 0 []]=DO at*;refine zQ 8 ?_;refine EvO.Bh hH rfl (ev rfl) (by exact at1) rfl (by dsimp only[Fr.put,u1,u2]<;>rfl) ?_;simp only[List.length_map,List.length_append,List.length_cons,List.length_nil];obtain⟨_,st,hev,rfl,hH⟩:=oN (at_:=aJ.length) (over:=DO.length) (lz:=false) HY (by omega) hH;refine qv hev ?_;refine zQ 1 ?_;rw[A6,Fv] at hH;refine zQ 6 ?_;refine qi hH at3 fun Vs SK=>?_;refine zQ 7 ?_;exact⟨mm-1,by omega,⟨i+1,j+t.flat.length,ts,cd,Ma,dk,aJ++(mf aJ.length (aJ.length+1+t.sz+1) false::(aE t (aJ.length+1)++[lE 0])),js++[aJ.length+1+t.sz],rfl,(by rw[List.map_append (f:=jt)];rw[kf] at hH;exact hH),by omega,by omega,by omega,nY.right,by rw[←Hg];exact vI.right,by rw[←JI];rw[←JI] at nX;exact nX.right,iy.2,by rw[Dp,←gx];simp only[List.append_assoc,List.cons_append,List.nil_append],by rw[Dp,←hjs];simp only[List.append_assoc,List.cons_append,List.nil_append],by rw[Dp];omega,by omega,by rw[List.length_append];simp only[List.length_cons,List.length_nil];omega⟩⟩
def aa (fr:Go.V.Fr) (k:Nat):Go.V.D:=Go.V.nth .junk fr.loc k
theorem rV {c:Nat→List aA} (hc:∀b,(c b).length=0) (z:Nat):∀k b,ef c z k b=[]
 |0,_=>rfl
 |k+1,b=>by rw[ef,rV hc z k,List.length_eq_zero_iff.1 (hc b)];rfl
theorem BU (s o:Nat) (lz:Bool):∃x y:Int,mf s o lz=cq 2 x y []:=by
 cases lz
 ·exact⟨_,_,rfl⟩
 ·exact⟨_,_,rfl⟩
theorem Ao {l:List Nod} (hll:l.length≤1048576) {m:Nat} (ih:∀t:Tr,t.flat.length≤m→rj l t) {n:Nod} {t:Tr} (eT:n.op=5) (NL:t.flat.length≤m) (mT:vl n 1) (rC:t.ok) {N k:Nat} {S s0:St} {H:List aN} {nd zd ed:D} {code:List aA} {Z E:List Int} {at_:Nat} (hF:S.flr≤N) (hnd:SlD nd 7 (l.map aQ)) (iN:eB l at_ (n::t.flat)) (hsz:eB Z (at_+1) t.zs) (ui:eB E (at_+1) (t.es (at_+1))) (hb:code.length+ba n t.sz 1≤1000000) (hM:I3 N S s0 k nd zd ed Z E H code):
  ∃r ab,Ev pv 90 [.ptr k 0 0,.int .i64 (at_:Nat)] s0 r ab∧r=.tup []∧I3 N S ab k nd zd ed Z E H (code++mw n (aE t) t.sz code.length):=by
 obtain⟨cd,dk,hH⟩:=hM;have hle:=iN.le (by simp);simp only[List.length_cons] at hle;have hn:=iN.head;have iN:=iN.tail;have hr1:=j6 hn;have n5:=dX (yI hsz)
 have BA:0≤n.mn∧n.mn≤30∧(n.mx=-1∨(n.mn≤n.mx∧n.mx≤30)):=by
  obtain⟨_,hq⟩:=mT;omega
 have FH:ba n t.sz 1=if n.mx=-1 then n.mn.toNat*t.sz+t.sz+2 else n.mn.toNat*t.sz+(n.mx.toNat-n.mn.toNat)*(t.sz+1):=by unfold ba;rw[if_neg (by omega),if_neg (by omega),if_neg (by omega),if_pos eT]
 rw[FH] at hb;clear FH;have AV:=fun b=>bN t b rC;have hb1:code.length+n.mn.toNat*t.sz≤1000000:=by split at hb<;>omega
 refine Ev.fX rfl OU rfl rfl rfl ?_;refine zE ?_;change EvC _ _ _ _ s0 _;have hc:=hnd.arg N S;refine zQ 7 ?_;refine qr fun RL NA=>?_;refine EvO.cu rfl (ev rfl) (by assumption) rfl (by dsimp only[Fr.put,u1,u2]<;>rfl) ?_;refine zQ 2 ?_;refine qa hH fun k4 st IV hH=>?_;refine qS hH at0 fun st hH=>?_;dsimp only[u2,u1,u3,u4,setMany,u5,u6,D.cells,Nat.reduceAdd,aB,aQ,ai,jt] at hH;refine zQ 2 ?_;have hH:Has N S st (.box k (.mem 0 false [cd,nd,zd,ed])::.deep dk cd 4 (code.map aB)::.lst zd 1 (Z.map ai)::.lst ed 1 (E.map ai)::.box k4 (.mem 0 false (aQ n))::H):=hH.ES;refine zQ 8 ?_;refine qi hH at2 fun IF AY=>?_;refine zQ 3 ?_;have Uh:=ie AV n.mn.toNat code.length;refine EvC.merge (fun fr st=>∃(cd:D) (dk:Nat→Prop) (tmp:List (Nat×D)),fr=⟨78,[.ptr k 0 0,.int .i64 (at_:Nat),aa fr 2,aa fr 3,.ptr k4 0 0,.int .i64 ((at_+1:Nat):Int),aa fr 6,aa fr 7,aa fr 8,aa fr 9,aa fr 10,aa fr 11,aa fr 12,aa fr 13,aa fr 14,aa fr 15,aa fr 16,aa fr 17,aa fr 18,aa fr 19,aa fr 20,aa fr 21,aa fr 22,aa fr 23,aa fr 24,aa fr 25,aa fr 26,aa fr 27,aa fr 28,aa fr 29,aa fr 30,aa fr 31,aa fr 32,aa fr 33,aa fr 34,aa fr 35,aa fr 36,aa fr 37,aa fr 38,aa fr 39,aa fr 40,aa fr 41,aa fr 42,aa fr 43,aa fr 44,aa fr 45,aa fr 46,aa fr 47,aa fr 48,aa fr 49,aa fr 50,aa fr 51,aa fr 52,aa fr 53,aa fr 54,aa fr 55,aa fr 56,aa fr 57,aa fr 58,aa fr 59,aa fr 60,aa fr 61,aa fr 62,aa fr 63,aa fr 64,aa fr 65,aa fr 66,aa fr 67,aa fr 68,aa fr 69,aa fr 70,aa fr 71,aa fr 72,aa fr 73,aa fr 74,aa fr 75,aa fr 76,aa fr 77],tmp⟩∧Has N S st (.box k (.mem 0 false [cd,nd,zd,ed])::.deep dk cd 4 ((code++ef (aE t) t.sz n.mn.toNat code.length).map aB)::.lst zd 1 (Z.map ai)::.lst ed 1 (E.map ai)::.box k4 (.mem 0 false (aQ n))::H)) ?_ ?_
 ·refine zP (fun hz=>?_) fun hz=>?_
  ·refine zQ 7 ?_;refine EvC.loop (fun mm fr st=>∃(i:Nat) (cd:D) (dk:Nat→Prop) (aJ:List aA),fr.clean=⟨78,[.ptr k 0 0,.int .i64 (at_:Nat),aa fr 2,aa fr 3,.ptr k4 0 0,.int .i64 ((at_+1:Nat):Int),aa fr 6,aa fr 7,aa fr 8,aa fr 9,aa fr 10,aa fr 11,aa fr 12,aa fr 13,aa fr 14,aa fr 15,aa fr 16,aa fr 17,aa fr 18,aa fr 19,aa fr 20,aa fr 21,aa fr 22,aa fr 23,aa fr 24,aa fr 25,aa fr 26,aa fr 27,.int .i64 n.mn,.int .i64 (i:Nat),aa fr 30,aa fr 31,aa fr 32,aa fr 33,aa fr 34,aa fr 35,aa fr 36,aa fr 37,aa fr 38,aa fr 39,aa fr 40,aa fr 41,aa fr 42,aa fr 43,aa fr 44,aa fr 45,aa fr 46,aa fr 47,aa fr 48,aa fr 49,aa fr 50,aa fr 51,aa fr 52,aa fr 53,aa fr 54,aa fr 55,aa fr 56,aa fr 57,aa fr 58,aa fr 59,aa fr 60,aa fr 61,aa fr 62,aa fr 63,aa fr 64,aa fr 65,aa fr 66,aa fr 67,aa fr 68,aa fr 69,aa fr 70,aa fr 71,aa fr 72,aa fr 73,aa fr 74,aa fr 75,aa fr 76,aa fr 77],[]⟩∧Has N S st (.box k (.mem 0 false [cd,nd,zd,ed])::.deep dk cd 4 (aJ.map aB)::.lst zd 1 (Z.map ai)::.lst ed 1 (E.map ai)::.box k4 (.mem 0 false (aQ n))::H)∧(i+mm=n.mn.toNat)∧(aJ++ef (aE t) t.sz mm aJ.length=code++ef (aE t) t.sz n.mn.toNat code.length)∧(aJ.length+mm*t.sz=code.length+n.mn.toNat*t.sz)) (n.mn.toNat) ?_ ?_
   ·exact⟨0,cd,dk,code,rfl,hH,by omega,rfl,rfl⟩
   rintro mm fr st ⟨i,cd,dk,aJ,hfr,hH,hi,pP,hcl⟩;rw[hfr];clear hfr;generalize aa fr=ee;clear fr;refine zQ 4 ?_
   cases mm with
   |zero=>
    have hcc:decide ((i:Int)<n.mn)=false:=by rw[decide_eq_false_iff_not];omega
    refine qq<|qE rfl (by rw[hcc]) ?_;simp only[ef,List.append_nil] at pP;rw[pP] at hH;refine zQ 1 ?_;exact⟨cd,dk,_,rfl,hH⟩
   |succ mm=>
    have hcc:decide ((i:Int)<n.mn)=true:=by rw[decide_eq_true_eq];omega
    rw[Nat.succ_mul] at hcl;refine qq<|qD rfl (by rw[hcc]) ?_;refine zQ 6 ?_;obtain⟨_,st,hev,rfl,cd,dk,hH⟩:=ih t (by omega) hF hnd iN hsz ui rC (by omega) ⟨cd,dk,hH⟩;refine qv hev ?_;refine zQ 5 ?_;exact⟨mm,by omega,⟨i+1,cd,dk,aJ++aE t aJ.length,rfl,hH,by omega,by rw[List.length_append,AV,List.append_assoc];exact pP,by rw[List.length_append,AV];omega⟩⟩
  ·refine zQ 1 ?_;have hz0:t.sz=0:=by omega
   have Um:ef (aE t) t.sz n.mn.toNat code.length=[]:=rV (fun b=>by rw[AV,hz0]) _ _ _;exact⟨cd,dk,_,rfl,(by rw[Um,List.append_nil];exact hH)⟩
 ·rintro fr st ⟨cd,dk,tmp,hfr,hH⟩;rw[hfr];clear hfr;generalize aa fr=ee;clear fr;have LY:(code++ef (aE t) t.sz n.mn.toNat code.length).length=code.length+n.mn.toNat*t.sz:=by rw[List.length_append,Uh]
  unfold mw;rw[←LY];rw[←LY] at hb1
  have hb2:if n.mx=-1 then(code++ef (aE t) t.sz n.mn.toNat code.length).length+t.sz+2≤1000000 else(code++ef (aE t) t.sz n.mn.toNat code.length).length+(n.mx.toNat-n.mn.toNat)*(t.sz+1)≤1000000:=by
   rw[LY];split
   ·rename_i h;rw[if_pos h] at hb;omega
   ·rename_i h;rw[if_neg h] at hb;omega
  have FP:∀X:List aA,code++(ef (aE t) t.sz n.mn.toNat code.length++X)=code++ef (aE t) t.sz n.mn.toNat code.length++X:=fun X=>by rw[List.append_assoc]
  simp only[apply_ite (fun X:List aA=>code++X),FP];clear FP LY;generalize code++ef (aE t) t.sz n.mn.toNat code.length=cR at*;refine zQ 7 ?_
  by_cases B':n.mx=-1
  ·rw[if_pos B'];rw[if_pos B'] at hb2;refine qD rfl (by simp[B']) ?_;refine zQ 3 ?_;refine EvO.go (d:=.agg [.int .i64 2,.int .i64 0,.int .i64 0,.nul]) (st1:=_) rfl rfl rfl (by dsimp only[Fr.put,u1,u2]<;>rfl) ?_;have hH:=hH.nulE 2;obtain⟨_,st,hev,rfl,cd,dk,hH⟩:=fv (rs:=[]) hF (by omega) hH;refine qv hev ?_;refine zQ 2 ?_;have lL:(cR++[cq 2 0 0 []]).length=cR.length+1:=by simp
   refine zQ 4 ?_;obtain⟨_,st,hev,rfl,cd,dk,hH⟩:=ih t (by omega) hF hnd iN hsz ui rC (by omega) ⟨cd,dk,hH⟩;refine qv hev ?_;refine zQ 1 ?_;rw[lL] at hH;have kf:(cR++[cq 2 0 0 []]++aE t (cR.length+1)).length=cR.length+1+t.sz:=by rw[List.length_append,lL,AV]
   refine zQ 4 ?_;refine EvO.go (d:=.agg [.int .i64 3,.int .i64 (cR.length:Nat),.int .i64 0,.nul]) (st1:=_) rfl rfl rfl (by dsimp only[Fr.put,u1,u2]<;>rfl) ?_;have hH:=hH.nulE 2;obtain⟨_,st,hev,rfl,cd,dk,hH⟩:=fv (rs:=[]) hF (by omega) hH;refine qv hev ?_;refine zQ 1 ?_
   have HY:(cR++[cq 2 0 0 []]++aE t (cR.length+1)++[cq 3 (cR.length:Nat) 0 []])[cR.length]?=some (cq 2 0 0 []):=by
    rw[List.append_assoc,List.append_assoc];exact oA _ _ _
   have A6:(cR++[cq 2 0 0 []]++aE t (cR.length+1)++[cq 3 (cR.length:Nat) 0 []]).length=cR.length+t.sz+2:=by rw[List.length_append,kf];simp only[List.length_cons,List.length_nil];omega
   have Fv:(cR++[cq 2 0 0 []]++aE t (cR.length+1)++[cq 3 (cR.length:Nat) 0 []]).set cR.length (mf cR.length (cR.length+t.sz+2) n.lz)=cR++(mf cR.length (cR.length+t.sz+2) n.lz::(aE t (cR.length+1)++[lE cR.length])):=by
    rw[List.append_assoc,List.append_assoc];exact oq _ _ _ _
   generalize cR++[cq 2 0 0 []]++aE t (cR.length+1)++[cq 3 (cR.length:Nat) 0 []]=DO at*;refine zQ 8 ?_;refine EvO.Bh hH rfl (ev rfl) (by exact at1) rfl (by dsimp only[Fr.put,u1,u2]<;>rfl) ?_;simp only[List.length_map,List.length_append,List.length_cons,List.length_nil];refine zQ 2 ?_;obtain⟨_,st,hev,rfl,hH⟩:=oN (at_:=cR.length) (over:=DO.length) (lz:=n.lz) HY (by omega) hH;refine qv hev ?_;refine zQ 1 ?_;rw[A6,Fv] at hH;refine EvC.ret ⟨rx,_,_,_,rfl,rfl,?_⟩;exact⟨rfl,cd,dk,hH.erase 4⟩
  ·rw[if_neg B'];rw[if_neg B'] at hb2;refine qE rfl (by simp[B']) ?_;refine zQ 1 ?_;obtain⟨a,ha⟩:∃a:Nat,n.mn=(a:Int):=Int.eq_ofNat_of_zero_le BA.1;obtain⟨b,Kw⟩:∃b:Nat,n.mx=(b:Int):=Int.eq_ofNat_of_zero_le (by omega);have Oe:n.mx.toNat-n.mn.toNat=b-a:=by omega
   rw[Oe] at hb2⊢;refine zQ 11 ?_;refine EvO.ky (z:=((b-a:Nat):Int)) rfl (ev rfl) (ev rfl) (by(try simp only[List.length_reverse,List.length_cons,List.length_nil,List.length_append,List.length_map,List.length_set]);rw[wrap_i64 (by omega) (by omega)]<;>omega) (by dsimp only[Fr.put,u1,u2]<;>rfl) ?_;refine zQ 2 ?_;have hH:Has N S st (.box k (.mem 0 false [cd,nd,zd,ed])::.deep dk cd 4 (cR.map aB)::.lst zd 1 (Z.map ai)::.lst ed 1 (E.map ai)::.lst .nul 1 (([]:List Nat).map jt)::.box k4 (.mem 0 false (aQ n))::H):=(hH.nulE 1).ES;refine zQ 1 ?_;refine EvC.loop (fun mm fr st=>∃(i:Nat) (cd jd:D) (dk:Nat→Prop) (aJ:List aA) (js:List Nat),fr.clean=⟨78,[.ptr k 0 0,.int .i64 (at_:Nat),aa fr 2,aa fr 3,.ptr k4 0 0,.int .i64 ((at_+1:Nat):Int),aa fr 6,jd,aa fr 8,aa fr 9,aa fr 10,aa fr 11,aa fr 12,aa fr 13,aa fr 14,aa fr 15,aa fr 16,aa fr 17,aa fr 18,aa fr 19,aa fr 20,aa fr 21,aa fr 22,aa fr 23,aa fr 24,aa fr 25,aa fr 26,aa fr 27,aa fr 28,aa fr 29,aa fr 30,aa fr 31,aa fr 32,aa fr 33,aa fr 34,aa fr 35,aa fr 36,aa fr 37,aa fr 38,aa fr 39,aa fr 40,aa fr 41,aa fr 42,aa fr 43,aa fr 44,aa fr 45,aa fr 46,aa fr 47,aa fr 48,aa fr 49,aa fr 50,aa fr 51,aa fr 52,aa fr 53,aa fr 54,aa fr 55,aa fr 56,aa fr 57,aa fr 58,aa fr 59,aa fr 60,aa fr 61,.int .i64 ((b-a:Nat):Int),.int .i64 (i:Nat),aa fr 64,aa fr 65,aa fr 66,aa fr 67,aa fr 68,aa fr 69,aa fr 70,aa fr 71,aa fr 72,aa fr 73,aa fr 74,aa fr 75,aa fr 76,aa fr 77],[]⟩∧Has N S st (.box k (.mem 0 false [cd,nd,zd,ed])::.deep dk cd 4 (aJ.map aB)::.lst zd 1 (Z.map ai)::.lst ed 1 (E.map ai)::.lst jd 1 (js.map jt)::.box k4 (.mem 0 false (aQ n))::H)∧(i+mm=b-a)∧(aJ++dR (fun _=>cq 2 0 0 []) (aE t) t.sz mm aJ.length=cR++dR (fun _=>cq 2 0 0 []) (aE t) t.sz (b-a) cR.length)∧(js++vc t.sz mm aJ.length=vc t.sz (b-a) cR.length)∧(aJ.length+mm*(t.sz+1)=cR.length+(b-a)*(t.sz+1))∧(js.length=i)) (b-a) ?_ ?_
   ·exact⟨0,cd,.nul,dk,cR,[],rfl,hH,by omega,rfl,rfl,rfl,rfl⟩
   rintro mm fr st ⟨i,cd,jd,dk,aJ,js,hfr,hH,hi,gx,hjs,hcl,iS⟩;rw[hfr];clear hfr;generalize aa fr=ee;clear fr;refine zQ 4 ?_
   cases mm with
   |zero=>
    have hcc:decide ((i:Int)<((b-a:Nat):Int))=false:=by rw[decide_eq_false_iff_not];omega
    refine qq<|qE rfl (by rw[hcc]) ?_;refine zQ 4 ?_;refine qn ?_ (hR:=hH.rows at4);simp only[List.length_map];refine zQ 2 ?_;simp only[dR,vc,List.append_nil] at gx hjs;rw[gx] at hH;obtain⟨C8,Em⟩:=mC (sp:=fun s=>mf s (cR.length+(b-a)*(t.sz+1)) n.lz) AV (i0:=cq 2 0 0 []) (b-a) cR.length cR [] rfl;simp only[List.append_nil] at C8 Em;have OK:(cR++dR (fun _=>cq 2 0 0 []) (aE t) t.sz (b-a) cR.length).length=cR.length+(b-a)*(t.sz+1):=by rw[List.length_append,o7 AV]
    rw[←hjs] at C8 Em;rw[←C8];clear C8 gx;generalize cR++dR (fun _=>cq 2 0 0 []) (aE t) t.sz (b-a) cR.length=C0 at*;generalize cR.length+(b-a)*(t.sz+1)=e at*;refine zQ 1 ?_;refine EvC.loop (fun mm fr st=>∃(q:Nat) (C:List aA),fr.clean=⟨78,[.ptr k 0 0,aa fr 1,aa fr 2,aa fr 3,.ptr k4 0 0,aa fr 5,aa fr 6,aa fr 7,aa fr 8,aa fr 9,aa fr 10,aa fr 11,aa fr 12,aa fr 13,aa fr 14,aa fr 15,aa fr 16,aa fr 17,aa fr 18,aa fr 19,aa fr 20,aa fr 21,aa fr 22,aa fr 23,aa fr 24,aa fr 25,aa fr 26,aa fr 27,aa fr 28,aa fr 29,aa fr 30,aa fr 31,aa fr 32,aa fr 33,aa fr 34,aa fr 35,aa fr 36,aa fr 37,aa fr 38,aa fr 39,aa fr 40,aa fr 41,aa fr 42,aa fr 43,aa fr 44,aa fr 45,aa fr 46,aa fr 47,aa fr 48,aa fr 49,aa fr 50,aa fr 51,aa fr 52,aa fr 53,aa fr 54,aa fr 55,aa fr 56,aa fr 57,aa fr 58,aa fr 59,aa fr 60,aa fr 61,aa fr 62,aa fr 63,aa fr 64,aa fr 65,aa fr 66,aa fr 67,aa fr 68,aa fr 69,aa fr 70,aa fr 71,aa fr 72,aa fr 73,aa fr 74,jd,.int .i64 (js.length:Nat),.int .i64 (q:Nat)],[]⟩∧Has N S st (.box k (.mem 0 false [cd,nd,zd,ed])::.deep dk cd 4 (C.map aB)::.lst zd 1 (Z.map ai)::.lst ed 1 (E.map ai)::.lst jd 1 (js.map jt)::.box k4 (.mem 0 false (aQ n))::H)∧(q+mm=js.length)∧(gk (fun s=>mf s e n.lz) C (js.drop q)=gk (fun s=>mf s e n.lz) C0 js)∧(∀p∈js,∃x y:Int,C[p]?=some (cq 2 x y []))∧(C.length=e)) (js.length) ?_ ?_
    ·exact⟨0,C0,rfl,hH,by omega,rfl,fun p hp=>⟨_,_,Em p hp⟩,OK⟩
    rintro mm fr st ⟨q,C,hfr,hH,hq,gG,lM,I1⟩;rw[hfr];clear hfr;generalize aa fr=ee;clear fr;refine zQ 5 ?_;refine zP (fun hlt=>?_) fun hlt=>?_
    ·refine zQ 1 ?_;have FA:q<js.length:=by omega
     obtain⟨p,hp⟩:∃p,js[q]?=some p:=⟨js[q]'FA,List.getElem?_eq_getElem _⟩
     obtain⟨x,y,hv⟩:=lM p (List.mem_of_getElem? hp);have hr1:=vq hp;have hpl:=lt_get hv;refine zQ 4 ?_;refine qi hH at4 fun Rv Ng=>?_;refine zQ 10 ?_;refine EvO.Bh hH rfl (ev rfl) (by exact at1) rfl (put_T rfl _) ?_;simp only[List.length_map];refine zQ 2 ?_;obtain⟨_,st,hev,rfl,hH⟩:=oN (at_:=p) (over:=C.length) (lz:=n.lz) hv (by omega) hH;refine qv hev ?_;refine zQ 5 ?_
     have vT:js.drop q=p::js.drop (q+1):=by
      rw[List.drop_eq_getElem_cons FA]
      congr 1
      exact Option.some.inj ((List.getElem?_eq_getElem _).symm.trans hp)
     refine⟨mm-1,by omega,⟨q+1,C.set p (mf p e n.lz),rfl,(by rw[I1] at hH;exact hH),by omega,by rw[vT] at gG;exact gG,?_,by rw[List.length_set];exact I1⟩⟩;intro p' tO
     by_cases hpp:p'=p
     ·subst hpp;obtain⟨x',y',JD⟩:=BU p' e n.lz;exact⟨x',y',by rw[List.getElem?_set_self hpl,JD]⟩
     ·rw[List.getElem?_set_ne (fun e=>hpp e.symm)];exact lM p' tO
    ·refine zQ 1 ?_;refine⟨fun i h=>(by cases h),_,_,_,rfl,rfl,?_⟩;have kR:q=js.length:=by omega
     rw[kR,List.drop_length] at gG;have gG:C=gk (fun s=>mf s e n.lz) C0 js:=gG;rw[←gG];exact⟨rfl,cd,dk,(hH.erase 5).erase 4⟩
   |succ mm=>
    have hcc:decide ((i:Int)<((b-a:Nat):Int))=true:=by rw[decide_eq_true_eq];omega
    rw[Nat.succ_mul] at hcl;refine qq<|qD rfl (by rw[hcc]) ?_;refine zQ 7 ?_;refine EvO.go (d:=.agg [.int .i64 2,.int .i64 0,.int .i64 0,.nul]) (st1:=_) rfl rfl rfl (by dsimp only[Fr.put,u1,u2]<;>rfl) ?_;have hH:=hH.nulE 2;obtain⟨_,st,hev,rfl,cd,dk,hH⟩:=fv (rs:=[]) hF (by omega) hH;refine qv hev ?_;refine qh (s:=1) (vs:=[_]) hH fun k69 st Tp hH=>?_;dsimp only[u2,u1,u3,u4,setMany,u5,u6,D.cells,Nat.reduceAdd,aB,aQ,ai,jt] at hH;refine qP hH at5 (hH.rows at0) fun Q5 st hH=>?_;dsimp only[u2,u1,u3,u4,setMany,u5,u6,D.cells,Nat.reduceAdd,aB,aQ,ai,jt] at hH;refine zQ 2 ?_;have hH:=hH.drop 1;have lL:(aJ++[cq 2 0 0 []]).length=aJ.length+1:=by simp
    refine zQ 3 ?_;obtain⟨_,st,hev,rfl,cd,dk,hH⟩:=ih t (by omega) hF hnd iN hsz ui rC (by omega) ⟨cd,dk,hH⟩;refine qv hev ?_;refine zQ 1 ?_;rw[lL] at hH;have kf:(aJ++[cq 2 0 0 []]++aE t (aJ.length+1)).length=aJ.length+1+t.sz:=by rw[List.length_append,lL,AV]
    refine zQ 4 ?_;exact⟨mm,by omega,⟨i+1,cd,Q5,dk,aJ++[cq 2 0 0 []]++aE t (aJ.length+1),js++[aJ.length],rfl,(by rw[List.map_append (f:=jt)];exact hH),by omega,by rw[kf,←gx];simp only[dR,List.append_assoc,List.cons_append,List.nil_append],by rw[kf,←hjs];simp only[vc,List.append_assoc,List.cons_append,List.nil_append],by rw[kf];omega,by rw[List.length_append,iS];rfl⟩⟩
def bj (fr:Go.V.Fr) (k:Nat):Go.V.D:=Go.V.nth .junk fr.loc k
theorem wx (t:Tr):eN (.cons t .nil)=aE t:=by
 funext b;simp only[eN,List.append_nil]
theorem wV (t:Tr):(a7.cons t .nil).sz=t.sz:=by simp only[a7.sz,Nat.add_zero]
theorem E8 {l:List Nod} (hll:l.length≤1048576) (hi:∀n∈l,n.ok):∀(m:Nat) (t:Tr),t.flat.length≤m→rj l t:=by
 intro m
 induction m with
 |zero=>intro t h;have:=t.gy;omega
 |succ m ih=>
  rintro⟨n,ks⟩ hm N k S s0 H nd zd ed code Z E at_ hF hnd iN hsz ui hok hb hM;have V9:=hM;obtain⟨cd,dk,hH⟩:=hM;simp only[Tr.ok] at hok;obtain⟨mT,kU⟩:=hok;simp only[Tr.flat,List.length_cons] at hm;have hle:=iN.le (by simp[Tr.flat]);simp only[Tr.flat] at iN hle;simp only[List.length_cons] at hle;simp only[Tr.zs] at hsz;simp only[Tr.es] at ui;simp only[Tr.sz] at hb;have hn:=iN.head;have J4:=hi n (List.mem_of_getElem? hn);have CY:=J4.1.arg N S;have pL:=J4.2.1;have hr1:=j6 hn;have HH:=mT.1;have fS:=a7.jx ks;have hcat:=fun b=>lW ks b kU;refine Ev.fX rfl Pc rfl rfl rfl ?_;refine zE ?_;change EvC _ _ _ _ s0 _;have hc:=hnd.arg N S;refine zQ 7 ?_;refine qr fun Qd J1=>?_;refine EvO.cu rfl (ev rfl) (by assumption) rfl (by dsimp only[Fr.put,u1,u2]<;>rfl) ?_;refine qa hH fun k4 st IV hH=>?_;refine qS hH at0 fun st hH=>?_;dsimp only[u2,u1,u3,u4,setMany,u5,u6,D.cells,Nat.reduceAdd,aB,aQ,ai,jt] at hH;refine zQ 1 ?_;have hH:Has N S st (.box k (.mem 0 false [cd,nd,zd,ed])::.deep dk cd 4 (code.map aB)::.lst zd 1 (Z.map ai)::.lst ed 1 (E.map ai)::.box k4 (.mem 0 false (aQ n))::H):=hH.ES;refine zQ 11 ?_;refine zI (fun q2=>?_) fun q2=>?_
  ·have x5:aE (.mk n ks) code.length=[cq 1 0 0 n.rs]:=by simp only[aE,if_pos q2]
   rw[x5];have hz:ba n ks.sz ks.len=1:=by unfold ba;rw[if_pos (.inl q2)]
   have hH:=hH.nulE 2;refine zQ 4 ?_;refine qP hH at0 (Arg.rows (by assumption) hH) fun PY st hH=>?_;dsimp only[u2,u1,u3,u4,setMany,u5,u6,D.cells,Nat.reduceAdd,aB,aQ,ai,jt] at hH;refine EvO.eE (qs:=[(0,_),(3,_)]) rfl rfl rfl rfl ⟨rfl,(ev rfl),(by rfl),rfl,(ev rfl),(by exact hH.ocells (by exact at0)),trivial⟩ (by intro q hq;simp only[List.mem_cons,List.not_mem_nil,or_false] at hq;rcases hq with rfl|rfl<;>exact⟨rfl,by exact Nat.le_of_ble_eq_true rfl⟩) (by show List.foldl _ [_,_,_,_] _=_;dsimp only[List.foldl_cons,List.foldl_nil,u2,u1]<;>rfl) (by dsimp only[Fr.put,u1,u2]<;>rfl) ?_;obtain⟨_,st,hev,rfl,cd,dk,hH⟩:=fv (rs:=n.rs) hF (by omega) hH;refine qv hev ?_;refine zQ 1 ?_;refine⟨fun i h=>(by cases h),_,_,_,rfl,rfl,?_⟩;exact⟨rfl,cd,dk,hH.erase 4⟩
  refine zQ 5 ?_;refine zI (fun q7=>?_) fun q7=>?_
  ·have x5:aE (.mk n ks) code.length=[cq 5 0 0 []]:=by simp only[aE,if_neg q2,if_pos q7]
   rw[x5];refine zQ 2 ?_;refine EvO.go (d:=.agg [.int .i64 5,.int .i64 0,.int .i64 0,.nul]) (st1:=_) rfl rfl rfl (by dsimp only[Fr.put,u1,u2]<;>rfl) ?_;have hH:=hH.nulE 2;obtain⟨_,st,hev,rfl,cd,dk,hH⟩:=fv (rs:=[]) hF (by omega) hH;refine qv hev ?_;refine zQ 1 ?_;refine⟨fun i h=>(by cases h),_,_,_,rfl,rfl,?_⟩;exact⟨rfl,cd,dk,hH.erase 4⟩
  refine zQ 5 ?_;refine zI (fun q8=>?_) fun q8=>?_
  ·have x5:aE (.mk n ks) code.length=[cq 6 0 0 []]:=by simp only[aE,if_neg q2,if_neg q7,if_pos q8]
   rw[x5];refine zQ 2 ?_;refine EvO.go (d:=.agg [.int .i64 6,.int .i64 0,.int .i64 0,.nul]) (st1:=_) rfl rfl rfl (by dsimp only[Fr.put,u1,u2]<;>rfl) ?_;have hH:=hH.nulE 2;obtain⟨_,st,hev,rfl,cd,dk,hH⟩:=fv (rs:=[]) hF (by omega) hH;refine qv hev ?_;refine zQ 1 ?_;refine⟨fun i h=>(by cases h),_,_,_,rfl,rfl,?_⟩;exact⟨rfl,cd,dk,hH.erase 4⟩
  refine zQ 5 ?_;refine zI (fun q3=>?_) fun q3=>?_
  ·have x5:aE (.mk n ks) code.length=eN ks code.length:=by simp only[aE,if_neg q2,if_neg q7,if_neg q8,if_pos q3]
   rw[x5];have hz:ba n ks.sz ks.len=ks.sz:=by unfold ba;rw[if_neg (by omega),if_neg (by omega),if_neg (by omega),if_neg (by omega)]
   rw[hz] at hb;refine zQ 13 ?_;refine EvC.loop (fun mm fr st=>∃(i j:Nat) (rest:a7) (cd:D) (dk:Nat→Prop) (aJ:List aA),fr.clean=⟨40,[.ptr k 0 0,.int .i64 (at_:Nat),bj fr 2,bj fr 3,.ptr k4 0 0,.int .i64 (j:Nat),bj fr 6,bj fr 7,bj fr 8,bj fr 9,bj fr 10,bj fr 11,bj fr 12,bj fr 13,bj fr 14,bj fr 15,bj fr 16,bj fr 17,bj fr 18,bj fr 19,bj fr 20,bj fr 21,bj fr 22,bj fr 23,bj fr 24,bj fr 25,bj fr 26,bj fr 27,bj fr 28,bj fr 29,bj fr 30,bj fr 31,bj fr 32,bj fr 33,bj fr 34,bj fr 35,bj fr 36,bj fr 37,.int .i64 n.kids,.int .i64 (i:Nat)],[]⟩∧Has N S st (.box k (.mem 0 false [cd,nd,zd,ed])::.deep dk cd 4 (aJ.map aB)::.lst zd 1 (Z.map ai)::.lst ed 1 (E.map ai)::.box k4 (.mem 0 false (aQ n))::H)∧(mm=rest.len)∧(i+rest.len=ks.len)∧(eB l j rest.flat)∧(eB Z j rest.zs)∧(eB E j (rest.es j))∧(rest.ok)∧(aJ++eN rest aJ.length=code++eN ks code.length)∧(aJ.length+rest.sz=code.length+ks.sz)∧(rest.flat.length≤m)) (ks.len) ?_ ?_
   ·exact⟨0,at_+1,ks,cd,dk,code,rfl,hH,rfl,by omega,iN.tail,hsz.tail,ui.tail,kU,rfl,rfl,by omega⟩
   rintro mm fr st ⟨i,j,rest,cd,dk,aJ,hfr,hH,xS,A1,nY,vI,nX,iy,gx,hcl,Hp⟩;rw[hfr];clear hfr;generalize bj fr=ee;clear fr;refine zQ 4 ?_
   cases rest with
   |nil=>
    simp only[a7.len] at A1;simp only[eN,List.append_nil] at gx;have hcc:decide ((i:Int)<n.kids)=false:=by rw[decide_eq_false_iff_not];omega
    refine qq<|qE rfl (by rw[hcc]) ?_;refine zQ 1 ?_;refine⟨fun i h=>(by cases h),_,_,_,rfl,rfl,?_⟩;rw[←gx];exact⟨rfl,cd,dk,hH.erase 4⟩
   |cons t ts=>
    simp only[a7.len] at A1 xS;simp only[a7.sz] at hcl;simp only[a7.flat,List.length_append] at nY Hp;simp only[a7.zs] at vI;simp only[a7.es] at nX;simp only[a7.ok] at iy;simp only[eN] at gx;have Hg:=t.gU;have JI:=t.g_ j;have AV:=bN t aJ.length iy.1;have M_:=dX (zz nX.left);have hcc:decide ((i:Int)<n.kids)=true:=by rw[decide_eq_true_eq];omega
    refine qq<|qD rfl (by rw[hcc]) ?_;refine zQ 7 ?_;obtain⟨_,st,hev,rfl,cd,dk,hH⟩:=ih t (by omega) hF hnd nY.left vI.left nX.left iy.1 (by omega) ⟨cd,dk,hH⟩;refine qv hev ?_;refine zQ 7 ?_;refine qi hH at3 fun Mm Hv=>?_;refine zQ 7 ?_;exact⟨mm-1,by omega,⟨i+1,j+t.flat.length,ts,cd,dk,aJ++aE t aJ.length,rfl,hH,by omega,by omega,nY.right,by rw[←Hg];exact vI.right,by rw[←JI];rw[←JI] at nX;exact nX.right,iy.2,by rw[List.length_append,AV,List.append_assoc];exact gx,by rw[List.length_append,AV];omega,by omega⟩⟩
  refine zQ 5 ?_;refine zI (fun q4=>?_) fun q4=>?_
  ·have x5:aE (.mk n ks) code.length=dD (lE (code.length+ba n ks.sz ks.len)) ks code.length:=by simp only[aE,if_neg q2,if_neg q7,if_neg q8,if_neg q3,if_pos q4]
   rw[x5];refine zQ 3 ?_;obtain⟨_,st,hev,rfl,cd,dk,hH⟩:=Iu hll ih q4 (by omega) mT kU hF hnd iN hsz.tail ui.tail hb ⟨cd,dk,hH⟩;refine qv hev ?_;refine zQ 1 ?_;refine⟨fun i h=>(by cases h),_,_,_,rfl,rfl,?_⟩;exact⟨rfl,cd,dk,hH.erase 4⟩
  refine zQ 5 ?_;refine zI (fun q5=>?_) fun q5=>?_
  ·have kV:ks.len=1:=by
    obtain⟨_,hq⟩:=mT;omega
   obtain⟨t,rfl⟩:=a7.zc kV;have x5:aE (.mk n (.cons t .nil)) code.length=mw n (aE t) t.sz code.length:=by simp only[aE,if_neg q2,if_neg q7,if_neg q8,if_neg q3,if_neg q4,if_pos q5,wx,wV]
   rw[x5];rw[kV] at mT hb;rw[wV] at hb;simp only[a7.flat,a7.zs,a7.es,a7.ok,List.append_nil] at*;refine zQ 3 ?_;obtain⟨_,st,hev,rfl,cd,dk,hH⟩:=Ao hll ih q5 (by omega) mT kU.1 hF hnd iN hsz.tail ui.tail hb ⟨cd,dk,hH⟩;refine qv hev ?_;refine zQ 1 ?_;refine⟨fun i h=>(by cases h),_,_,_,rfl,rfl,?_⟩;exact⟨rfl,cd,dk,hH.erase 4⟩
  refine zQ 5 ?_;refine zI (fun q6=>?_) fun q6=>?_
  ·have kV:ks.len=1∧1≤n.cap∧n.cap≤4:=by
    obtain⟨_,hq⟩:=mT;omega
   obtain⟨t,rfl⟩:=a7.zc kV.1;have x5:aE (.mk n (.cons t .nil)) code.length=cq 4 (2*n.cap) 0 []::(aE t (code.length+1)++[cq 4 (2*n.cap+1) 0 []]):=by simp only[aE,if_neg q2,if_neg q7,if_neg q8,if_neg q3,if_neg q4,if_neg q5,if_pos q6,wx]
   rw[x5];have hz:ba n (a7.cons t .nil).sz (a7.cons t .nil).len=t.sz+2:=by unfold ba;rw[if_neg (by omega),if_neg (by omega),if_pos q6,wV]
   rw[hz] at hb;simp only[a7.flat,a7.zs,a7.es,a7.ok,List.append_nil] at iN hsz ui kU hm;refine zQ 5 ?_;refine EvO.xx (z:=(2*n.cap)) rfl (ev rfl) (ev rfl) (by(try simp only[List.length_reverse,List.length_cons,List.length_nil,List.length_append,List.length_map,List.length_set]);rw[wrap_i64 (by omega) (by omega)]<;>omega) (put_T rfl _) ?_;refine EvO.go (d:=.agg [.int .i64 4,.int .i64 (2*n.cap),.int .i64 0,.nul]) (st1:=_) rfl rfl rfl (put_T rfl _) ?_;have hH:=hH.nulE 2;obtain⟨_,st,hev,rfl,cd,dk,hH⟩:=fv (rs:=[]) hF (by omega) hH;refine qv hev ?_;refine zQ 1 ?_;have lL:(code++[cq 4 (2*n.cap) 0 []]).length=code.length+1:=by simp
   refine zQ 5 ?_;obtain⟨_,st,hev,rfl,cd,dk,hH⟩:=ih t (by omega) hF hnd iN.tail hsz.tail ui.tail kU.1 (by omega) ⟨cd,dk,hH⟩;refine qv hev ?_;refine zQ 1 ?_;rw[lL] at hH;have kf:(code++[cq 4 (2*n.cap) 0 []]++aE t (code.length+1)).length=code.length+1+t.sz:=by rw[List.length_append,lL,bN t _ kU.1]
   refine zQ 4 ?_;refine EvO.xx (z:=(2*n.cap)) rfl (ev rfl) (ev rfl) (by(try simp only[List.length_reverse,List.length_cons,List.length_nil,List.length_append,List.length_map,List.length_set]);rw[wrap_i64 (by omega) (by omega)]<;>omega) (put_T rfl _) ?_;refine EvO.gI (z:=(2*n.cap+1)) rfl (ev rfl) (ev rfl) (by(try simp only[List.length_reverse,List.length_cons,List.length_nil,List.length_append,List.length_map,List.length_set]);rw[wrap_i64 (by omega) (by omega)]<;>omega) (put_T rfl _) ?_;refine EvO.go (d:=.agg [.int .i64 4,.int .i64 (2*n.cap+1),.int .i64 0,.nul]) (st1:=_) rfl rfl rfl (put_T rfl _) ?_;have hH:=hH.nulE 2;obtain⟨_,st,hev,rfl,cd,dk,hH⟩:=fv (rs:=[]) hF (by omega) hH;refine qv hev ?_;refine zQ 1 ?_;have fp:code++[cq 4 (2*n.cap) 0 []]++aE t (code.length+1)++[cq 4 (2*n.cap+1) 0 []]=code++cq 4 (2*n.cap) 0 []::(aE t (code.length+1)++[cq 4 (2*n.cap+1) 0 []]):=by simp
   rw[fp] at hH;refine⟨fun i h=>(by cases h),_,_,_,rfl,rfl,?_⟩;exact⟨rfl,cd,dk,hH.erase 4⟩
  ·refine zQ 1 ?_;have x5:aE (.mk n ks) code.length=[]:=by simp only[aE,if_neg q2,if_neg q7,if_neg q8,if_neg q3,if_neg q4,if_neg q5,if_neg q6]
   rw[x5,List.append_nil];refine⟨fun i h=>(by cases h),_,_,_,rfl,rfl,?_⟩;exact⟨rfl,cd,dk,hH.erase 4⟩
end Go.Proofs.YtnleclohocdkaaaGreat
