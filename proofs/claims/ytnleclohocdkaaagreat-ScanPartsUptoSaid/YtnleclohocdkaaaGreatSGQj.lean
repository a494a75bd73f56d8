/-
 A set of patterns as a program: prog.Compile. %deep
-/
import Derived.Test.YtnleclohocdkaaaGreatSGHr
import Derived.Test.YtnleclohocdkaaaGreatSGQd
import Derived.Test.YtnleclohocdkaaaGreatSGPe
import Derived.Test.YtnleclohocdkaaaGreatSGSc
import Derived.Test.YtnleclohocdkaaaGreatSM2
import Derived.DataReads
import Derived.ChangeOld
import GoSem.ClaimChange
import Derived.Below
import Derived.Test.YtnleclohocdkaaaGreatRows
import Derived.Test.YtnleclohocdkaaaGreatSGCa
import Derived.Test.YtnleclohocdkaaaGreatSGYg
set_option maxRecDepth 100000
set_option maxHeartbeats 4000000
set_option linter.unusedSimpArgs false
set_option linter.unusedVariables false
set_option linter.unusedSectionVars false
set_option linter.unnecessarySimpa false
namespace Go.Proofs.YtnleclohocdkaaaGreat
open Go.V Go
def gr (fr:Go.V.Fr) (k:Nat):Go.V.D:=Go.V.nth .junk fr.loc k
def Bt (x:Nl):List D:=[x.d]
theorem G6 {l:List Nl} {i:Nat} {q:Nl} (h:l[i]?=some q):(l.map Bt)[i]?=some (Bt q):=by rw[List.getElem?_map,h];rfl
def compD (R:rm):D:=.tup [(pgV R.code R.ah).d,.int .i64 R.e,.int .i64 R.w]
theorem yS {es M:List Int} (h:M.length=es.length):l8 es 0 M=M:=by
 unfold l8;simp[h]
theorem mX (r:Nat) (c:List aA) (s:List Int):dH [] r c s=⟨c,s,0,0⟩:=by simp only[dH]
theorem yr {s0:St} {x:D} {rules:List Nl} (hx:V.Rows s0 1 x (rules.map Bt)) (hr:∀r∈rules,r.ok) (hl:rules.length≤1048576):Ev pv 8 [x] s0 (compD (compileS (rules.map (·.l)))) s0:=by
 refine Ev.mk1 rfl UI rfl rfl rfl ?_;refine zE ?_;obtain⟨hSb,hF,hH⟩:=ri s0;generalize enterSt .ro s0=S at*;have hx:=Arg.of hx hSb;have hfz:∀(st:St) (e w:Int),aX st s0.bs.length false 16 (ry [.agg [.nul,.nul],.int .i64 e,.int .i64 w])=some (compD ⟨[],[],e,w⟩):=fun st e w=>rfl;refine zQ 2 ?_;refine qa hH fun k2 st hk2 hH=>?_;refine zQ 7 ?_;refine qn ?_;simp only[List.length_map];refine zQ 2 ?_;unfold compileS
 by_cases h8:8<rules.length
 ·rw[if_pos (by rw[List.length_map];exact h8)];refine qD rfl (by simp;omega) ?_;refine zQ 2 ?_;refine EvO.go (d:=.agg [.nul,.nul]) (st1:=_) rfl rfl rfl (by dsimp only[Fr.put,u1,u2]<;>rfl) ?_;refine qS hH at0 fun st hH=>?_;dsimp only[u2,u1,u3,u4,setMany,u5,u6,D.cells,Nat.reduceAdd,aB,aQ,ai,Bt] at hH;refine zQ 3 ?_;refine EvC.ret ⟨rx,_,hH.jV rfl at0 rfl rfl rfl,rl hSb hH (hfz _ 13 8)⟩
 ·rw[if_neg (by rw[List.length_map];exact h8)];refine qE rfl (by simp;omega) ?_;refine zQ 3 ?_;refine EvO.go (d:=.agg [.nul,.nul,.nul,.nul]) (st1:=_) rfl rfl rfl (by dsimp only[Fr.put,u1,u2]<;>rfl) ?_;refine qb hH fun k14 st HK hH=>?_;refine zQ 10 ?_;refine qn ?_;simp only[List.length_map];refine zQ 2 ?_;have hH:Has s0.bs.length S st (.lst .nul 1 (([]:List Int).map ai)::.deep (fun _=>False) .nul 4 (([]:List aA).map aB)::.box k14 (.mem 0 false [.nul,.nul,.nul,.nul])::[.box k2 (.mem 0 false [.nul,.nul])]):=(hH.Jk 4).nulE 1;refine zQ 1 ?_;refine EvC.loop (fun mm fr st=>∃(r:Nat) (cd nd zd ed sd:D) (dk:Nat→Prop) (code:List aA) (ah:List Int),fr.clean=⟨18,[gr fr 0,gr fr 1,.ptr k2 0 0,.int .i64 0,.int .i64 0,.ptr k14 0 0,sd,gr fr 7,gr fr 8,gr fr 9,gr fr 10,gr fr 11,gr fr 12,gr fr 13,gr fr 14,x,.int .i64 (rules.length:Nat),.int .i64 (r:Nat)],[]⟩∧Has s0.bs.length S st [.lst sd 1 (ah.map ai),.deep dk cd 4 (code.map aB),.box k14 (.mem 0 false [cd,nd,zd,ed]),.box k2 (.mem 0 false [.nul,.nul])]∧(r+mm=rules.length)∧(dH ((rules.drop r).map (·.l)) r code ah=dH (rules.map (·.l)) 0 [] [])∧(code.length≤400)∧(ah.length≤r)) (rules.length) ?_ ?_
  ·exact⟨0,.nul,.nul,.nul,.nul,.nul,(fun _=>False),[],[],rfl,hH,by omega,by rw[List.drop_zero],by simp,by simp⟩
  rintro mm fr st ⟨r,cd,nd,zd,ed,sd,dk,code,ah,hfr,hH,VP,hX,hcl,f_⟩;rw[hfr];clear hfr;generalize gr fr=ee;clear fr;refine zQ 4 ?_
  by_cases hlt:r<rules.length
  ·obtain⟨q,hq⟩:∃q,rules[r]?=some q:=⟨rules[r]'hlt,List.getElem?_eq_getElem _⟩
   have vJ:=hr q (List.mem_of_getElem? hq);have hr1:=G6 hq
   have vT:rules.drop r=q::rules.drop (r+1):=by
    rw[List.drop_eq_getElem_cons hlt]
    congr 1
    exact Option.some.inj ((List.getElem?_eq_getElem _).symm.trans hq)
   rw[vT,List.map_cons,dH] at hX;refine qq<|qD rfl (by simp;omega) ?_;refine zQ 6 ?_;refine qr fun Jh C7=>?_;refine zQ 8 ?_;refine qv (An vJ) ?_;refine zQ 2 ?_
   cases xR:e6 q.l with
   |false=>
    rw[if_pos xR] at hX;refine zQ 3 ?_;refine EvO.go (d:=.agg [.nul,.nul]) (st1:=_) rfl rfl rfl (put_T rfl _) ?_;refine qm ?_;refine qS hH at3 fun st hH=>?_;dsimp only[u2,u1,u3,u4,setMany,u5,u6,D.cells,Nat.reduceAdd,aB,aQ,ai,Bt] at hH;refine zQ 3 ?_;rw[←hX];refine EvC.ret ⟨rx,_,hH.jV rfl at3 rfl rfl rfl,rl hSb hH (hfz _ 1 r)⟩
   |true=>
    rw[if_neg (by rw[xR];simp)] at hX;obtain⟨rC,Hi⟩:=tb xR;have VU:=vJ.c.arg s0.bs.length S;have VT:=vJ.nl;have n_:=vJ.c;refine zQ 9 ?_;refine qn ?_;simp only[List.length_map];refine EvO.zj (s:=1) hH rfl rfl rfl rfl rfl rfl rfl rfl (Nat.le_of_ble_eq_true rfl) (by omega) (fun _=>(put_T rfl _)) (fun k33 st NQ hH=>?_);refine qm ?_;refine qn ?_;simp only[List.length_map];refine EvO.zj (s:=1) hH rfl rfl rfl rfl rfl rfl rfl rfl (Nat.le_of_ble_eq_true rfl) (by omega) (fun _=>(put_T rfl _)) (fun k36 st Kb hH=>?_);refine zQ 2 ?_;refine qT hH at4 fun st hH=>?_;dsimp only[u2,u1,u3,u4,setMany,u5,u6,D.cells,Nat.reduceAdd,aB,aQ,ai,Bt] at hH;refine zQ 2 ?_;refine qT hH at4 fun st hH=>?_;dsimp only[u2,u1,u3,u4,setMany,u5,u6,D.cells,Nat.reduceAdd,aB,aQ,ai,Bt] at hH;refine zQ 2 ?_;refine qT hH at4 fun st hH=>?_;dsimp only[u2,u1,u3,u4,setMany,u5,u6,D.cells,Nat.reduceAdd,aB,aQ,ai,Bt] at hH;refine zQ 1 ?_
    have hH:Has s0.bs.length S st (.lst (.win k33 0 0 q.l.length 1) 1 ((List.replicate q.l.length (0:Int)).map ai)::.lst (.win k36 0 0 q.l.length 1) 1 ((List.replicate q.l.length (0:Int)).map ai)::.lst sd 1 (ah.map ai)::.deep dk cd 4 (code.map aB)::.box k14 (.mem 0 false [cd,q.d,.win k33 0 0 q.l.length 1,.win k36 0 0 q.l.length 1])::.box k2 (.mem 0 false [.nul,.nul])::[]):=by
     rw[List.map_replicate];exact hH.front at1
    refine zQ 7 ?_;obtain⟨_,st,hev,rfl,hH⟩:=BZ vJ.nl vJ.i vJ.c _ (bW q.l) (Nat.le_refl _) rC (at_:=0) (by rw[Hi];exact eB.all _) (by simp) hH;refine qv hev ?_;refine zQ 1 ?_;rw[yS (by rw[Tr.gU,Hi];simp)] at hH;have hH:=hH.front at1;refine zQ 7 ?_;obtain⟨_,st,hev,rfl,hH⟩:=FY vJ.nl vJ.i vJ.c _ (bW q.l) (Nat.le_refl _) rC (at_:=0) (by rw[Hi];exact eB.all _) (by simp) hH;refine qv hev ?_;refine zQ 1 ?_;rw[yS (by rw[Tr.g_,Hi];simp)] at hH;have Su:=dX (yI (eB.all (bW q.l).zs));refine zQ 7 ?_;refine EvO.Bh hH rfl (ev rfl) (by exact at3) rfl (put_T rfl _) ?_;simp only[List.length_map];refine zQ 4 ?_;refine qi hH at1 fun Rx Ni=>?_;refine zQ 1 ?_;refine EvO.gI (z:=((code.length+min (bW q.l).sz 401:Nat):Int)) rfl (ev rfl) (ev rfl) (by(try simp only[List.length_reverse,List.length_cons,List.length_nil,List.length_append,List.length_map,List.length_set]);rw[wrap_i64 (by omega) (by omega)]<;>omega) (put_T rfl _) ?_;refine EvO.gI (z:=((code.length+min (bW q.l).sz 401+3:Nat):Int)) rfl (ev rfl) (ev rfl) (by(try simp only[List.length_reverse,List.length_cons,List.length_nil,List.length_append,List.length_map,List.length_set]);rw[wrap_i64 (by omega) (by omega)]<;>omega) (put_T rfl _) ?_;refine zQ 2 ?_
    by_cases HW:400<code.length+min (bW q.l).sz 401+3
    ·rw[if_pos HW] at hX;have hcc:decide (((code.length+min (bW q.l).sz 401+3:Nat):Int)>400)=true:=by rw[decide_eq_true_eq];omega
     refine qD rfl (by rw[hcc]) ?_;refine zQ 2 ?_;refine EvO.go (d:=.agg [.nul,.nul]) (st1:=_) rfl rfl rfl (put_T rfl _) ?_;refine qm ?_;refine qS hH at5 fun st hH=>?_;dsimp only[u2,u1,u3,u4,setMany,u5,u6,D.cells,Nat.reduceAdd,aB,aQ,ai,Bt] at hH;refine zQ 3 ?_;rw[←hX];refine EvC.ret ⟨rx,_,hH.jV rfl at5 rfl rfl rfl,rl hSb hH (hfz _ 12 r)⟩
    ·rw[if_neg HW] at hX;have hcc:decide (((code.length+min (bW q.l).sz 401+3:Nat):Int)>400)=false:=by rw[decide_eq_false_iff_not];omega
     refine qE rfl (by rw[hcc]) ?_;refine zQ 1 ?_;have hH:=hH.front at1;have hH:=hH.front at3;have hH:=hH.front at4;have hH:Has s0.bs.length S st (.box k14 (.mem 0 false [cd,q.d,.win k33 0 0 q.l.length 1,.win k36 0 0 q.l.length 1])::.deep dk cd 4 (code.map aB)::.lst (.win k33 0 0 q.l.length 1) 1 ((bW q.l).zs.map ai)::.lst (.win k36 0 0 q.l.length 1) 1 (((bW q.l).es 0).map ai)::.lst sd 1 (ah.map ai)::.box k2 (.mem 0 false [.nul,.nul])::[]):=hH;refine zQ 4 ?_;refine EvO.go (d:=.agg [.int .i64 4,.int .i64 0,.int .i64 0,.nul]) (st1:=_) rfl rfl rfl (put_T rfl _) ?_;have hH:=hH.nulE 2;obtain⟨_,st,hev,rfl,cd,dk,hH⟩:=fv (rs:=[]) hF (by omega) hH;refine qv hev ?_;refine qh (s:=1) (vs:=[_]) hH fun k75 st Tn hH=>?_;refine EvO.happend (s:=1) hH rfl (ev rfl) (ev rfl) (by exact at5) (by exact hH.rows (by exact at0)) rfl rfl rfl rfl rfl rfl rfl ⟨(Nat.le_of_ble_eq_true rfl),(Nat.le_of_ble_eq_true rfl)⟩ (fun _=>(put_T rfl _)) (by simp only[List.length_cons,List.length_nil,List.length_map]<;>omega) (by exact .inl hF) (fun Q4 st hH=>?_);dsimp only[u2,u1,u3,u4,setMany,u5,u6,D.cells,Nat.reduceAdd,aB,aQ,ai,Bt] at hH;refine zQ 2 ?_;have hH:=hH.drop 1;have lL:(code++[cq 4 0 0 []]).length=code.length+1:=by simp
     refine zQ 3 ?_;obtain⟨_,st,hev,rfl,cd,dk,hH⟩:=E8 vJ.nl vJ.i _ (bW q.l) (Nat.le_refl _) hF vJ.c (at_:=0) (by rw[Hi];exact eB.all _) (eB.all _) (eB.all _) rC (by omega) ⟨cd,dk,hH⟩;refine qv hev ?_;refine zQ 1 ?_;rw[lL] at hH;have kf:(code++[cq 4 0 0 []]++aE (bW q.l) (code.length+1)).length=code.length+1+(bW q.l).sz:=by rw[List.length_append,lL,bN _ _ rC]
     refine zQ 3 ?_;refine EvO.go (d:=.agg [.int .i64 4,.int .i64 1,.int .i64 0,.nul]) (st1:=_) rfl rfl rfl (put_T rfl _) ?_;have hH:=hH.nulE 2;obtain⟨_,st,hev,rfl,cd,dk,hH⟩:=fv (rs:=[]) hF (by omega) hH;refine qv hev ?_;refine zQ 1 ?_;have A6:(code++[cq 4 0 0 []]++aE (bW q.l) (code.length+1)++[cq 4 1 0 []]).length=code.length+1+(bW q.l).sz+1:=by rw[List.length_append,kf];rfl
     refine zQ 3 ?_;refine EvO.go (d:=.agg [.int .i64 7,.int .i64 (r:Nat),.int .i64 0,.nul]) (st1:=_) rfl rfl rfl (put_T rfl _) ?_;have hH:=hH.nulE 2;obtain⟨_,st,hev,rfl,cd,dk,hH⟩:=fv (rs:=[]) hF (by omega) hH;refine qv hev ?_;refine zQ 1 ?_
     have Sq:code++[cq 4 0 0 []]++aE (bW q.l) (code.length+1)++[cq 4 1 0 []]++[cq 7 (r:Nat) 0 []]=code++dE (bW q.l) code.length r:=by
      unfold dE;simp
     rw[Sq] at hH;have hH:=(hH.erase 2).erase 2;have hH:=hH.front at1;have hH:=hH.front at2;refine zQ 4 ?_;exact⟨mm-1,by omega,⟨r+1,cd,q.d,.win k33 0 0 q.l.length 1,.win k36 0 0 q.l.length 1,Q4,dk,code++dE (bW q.l) code.length r,ah++[((code.length:Nat):Int)],rfl,(by rw[List.map_append (f:=ai)];exact hH),by omega,hX,by rw[List.length_append,jU rC];omega,by rw[List.length_append];simp only[List.length_cons,List.length_nil];omega⟩⟩
  ·refine qq<|qE rfl (by simp;omega) ?_;refine zQ 1 ?_;rw[List.drop_of_length_le (by omega),List.map_nil,mX] at hX;refine zQ 7 ?_;refine EvO.eE (qs:=[(0,_),(1,_)]) rfl rfl rfl rfl ⟨rfl,(ev rfl),(by exact hH.dcells (by exact at1)),rfl,(ev rfl),(by exact hH.ocells (by exact at0)),trivial⟩ (by intro q hq;simp only[List.mem_cons,List.not_mem_nil,or_false] at hq;rcases hq with rfl|rfl<;>exact⟨rfl,by exact Nat.le_of_ble_eq_true rfl⟩) (by show List.foldl _ [_,_] _=_;dsimp only[List.foldl_cons,List.foldl_nil,u2,u1]<;>rfl) (put_T rfl _) ?_;refine qS hH at3 fun st hH=>?_;dsimp only[u2,u1,u3,u4,setMany,u5,u6,D.cells,Nat.reduceAdd,aB,aQ,ai,Bt] at hH;refine zQ 3 ?_;rw[←hX];have h1:=hH.pT at1 (n:=13) (by decide);have h2:=hH.zx at0 (mR _) (n:=14) (by decide)
   have h4:aX st s0.bs.length false 15 (.agg [cd,sd])=some (pgV code ah).d:=by
    show(gF (aX st s0.bs.length false 14) [cd,sd]).map D.agg=_;simp only[gF,h1,h2,Option.map_some];rfl
   have h3:aX st s0.bs.length false 16 (ry [.agg [cd,sd],.int .i64 0,.int .i64 0])=some (compD ⟨code,ah,0,0⟩):=by
    show(gF (aX st s0.bs.length false 15) [.agg [cd,sd],.int .i64 0,.int .i64 0]).map D.tup=_;simp only[gF,h4];rfl
   exact EvC.ret ⟨rx,_,hH.jV rfl at3 rfl rfl rfl,rl hSb hH h3⟩
theorem wo:∀(ls:List (List Nod)) (r:Nat) (c:List aA) (s:List Int),(∀l∈ls,∀n∈l,n.rs.length≤1048576)→(∀i∈c,iC i)→c.length≤400→s.length≤r→(∀i∈(dH ls r c s).code,iC i)∧(dH ls r c s).code.length≤400∧(dH ls r c s).ah.length≤r+ls.length
 |[],r,c,s,_,h1,h2,h3=>by rw[mX];exact⟨h1,h2,by simpa using h3⟩
 |l::ls,r,c,s,h0,h1,h2,h3=>by
  have Qz:∀e w:Int,(∀i∈(rm.mk [] [] e w).code,iC i)∧(rm.mk [] [] e w).code.length≤400∧(rm.mk [] [] e w).ah.length≤r+(l::ls).length:=fun e w=>⟨fun i hi=>(by cases hi),by simp,by simp⟩
  rw[dH]
  split
  ·exact Qz _ _
  ·rename_i hr;rw[Bool.not_eq_false] at hr
   split
   ·exact Qz _ _
   ·rename_i hb;obtain⟨t1,t2⟩:=tb hr
    obtain⟨h4,h5,h6⟩:=wo ls (r+1) (c++dE (bW l) c.length r) (s++[((c.length:Nat):Int)]) (fun l' hl'=>h0 l' (List.mem_cons_of_mem _ hl')) (fun i hi=>by
     rcases List.mem_append.1 hi with hi|hi
     ·exact h1 i hi
     ·exact EP (by rw[t2];exact h0 l (List.mem_cons_self ..)) i hi) (by rw[List.length_append,jU t1];omega) (by rw[List.length_append];simp only[List.length_cons,List.length_nil];omega)
    exact⟨h4,h5,by simp only[List.length_cons];omega⟩
theorem wm {ls:List (List Nod)} (h:∀l∈ls,∀n∈l,n.rs.length≤1048576):(pgV (compileS ls).code (compileS ls).ah).ok∧(compileS ls).code.length≤400:=by
 unfold compileS
 split
 ·exact⟨Cf (fun i hi=>(by cases hi)) (by simp) (by simp),by simp⟩
 ·obtain⟨h1,h2,h3⟩:=wo ls 0 [] [] h (fun i hi=>by cases hi) (by simp) (by simp);exact⟨Cf h1 (by omega) (by omega),h2⟩
def strC (b:List UInt8):List D:=[.str b]
theorem str_get {l:List (List UInt8)} {i:Nat} {q:List UInt8} (h:l[i]?=some q):(l.map strC)[i]?=some (strC q):=by rw[List.getElem?_map,h];rfl
theorem G5 {parts:List (List Nod)} (h:∀l∈parts,(∀n∈l,NdV n)∧l.length≤500):∀r∈parts.map (fun l=>(⟨ug l,l⟩:Nl)),r.ok:=by
 intro r hr;obtain⟨l,hl,rfl⟩:=List.mem_map.1 hr;exact Jl (h l hl).1 (by have:=(h l hl).2;omega)
theorem Cy {parts:List (List Nod)}:(parts.map (fun l=>(⟨ug l,l⟩:Nl))).map Bt=parts.map partC:=by
 rw[List.map_map];rfl
theorem comp_parts {s0:St} {y:D} {parts:List (List Nod)} (h:∀l∈parts,(∀n∈l,NdV n)∧l.length≤500) (hl:parts.length≤1048576) (hy:V.Rows s0 1 y (parts.map partC)):Ev pv 8 [y] s0 (compD (compileS parts)) s0∧(pgV (compileS parts).code (compileS parts).ah).ok∧(compileS parts).code.length≤400:=by
 have h1:=yr (s0:=s0) (x:=y) (rules:=parts.map (fun l=>(⟨ug l,l⟩:Nl))) (by rw[Cy];exact hy) (G5 h) (by rw[List.length_map];exact hl);have h2:(parts.map (fun l=>(⟨ug l,l⟩:Nl))).map (·.l)=parts:=by rw[List.map_map];exact List.map_id _
 rw[h2] at h1;exact⟨h1,wm fun l hl n hn=>((h l hl).1 n hn).2.1⟩
def yU (n:Nat) (i:aA):aA:=if i.op=2 then⟨2,i.x+n,i.y+n,i.rd,i.rs⟩ else if i.op=3 then⟨3,i.x+n,i.y,i.rd,i.rs⟩ else i
theorem oO (n:Nat) {op:Int} (x y:Int) (rs:List Rg) (h2:op≠2) (h3:op≠3):yU n (cq op x y rs)=cq op x y rs:=by
 unfold yU cq;rw[if_neg h2,if_neg h3]
theorem w5 (n s o:Nat) (lz:Bool):yU n (mf s o lz)=mf (s+n) (o+n) lz:=by
 cases lz
 ·show(⟨2,((s+1:Nat):Int)+n,(o:Int)+n,_,_⟩:aA)=cq 2 ((s+n+1:Nat):Int) ((o+n:Nat):Int) [];unfold cq
  congr 1;omega
 ·show(⟨2,(o:Int)+n,((s+1:Nat):Int)+n,_,_⟩:aA)=cq 2 ((o+n:Nat):Int) ((s+n+1:Nat):Int) [];unfold cq
  congr 1;omega
theorem B1 (n e:Nat):yU n (lE e)=lE (e+n):=by
 show(⟨3,(e:Int)+n,0,_,_⟩:aA)=cq 3 ((e+n:Nat):Int) 0 [];unfold cq
 congr 1
theorem tk {c:Nat→List aA} {z n:Nat} (hc:∀b,c (b+n)=(c b).map (yU n)):∀k b,ef c z k (b+n)=(ef c z k b).map (yU n)
 |0,b=>rfl
 |k+1,b=>by
  have h:=tk hc (z:=z) k (b+z);rw[Nat.add_right_comm] at h;rw[ef,ef,List.map_append,hc,h]
theorem yZ {sp P6:Nat→aA} {c:Nat→List aA} {z n:Nat} (hs:∀s,P6 (s+n)=yU n (sp s)) (hc:∀b,c (b+n)=(c b).map (yU n)):∀k b,dR P6 c z k (b+n)=(dR sp c z k b).map (yU n)
 |0,b=>rfl
 |k+1,b=>by
  have h:=yZ hs hc (z:=z) k (b+1+z);have e1:b+1+z+n=b+n+1+z:=by omega
  have e2:b+n+1=b+1+n:=by omega
  rw[e1] at h;rw[dR,dR,List.map_cons,List.map_append,hs,h,e2,hc]
theorem ER {nd:Nod} {c:Nat→List aA} {z n b:Nat} (hc:∀b,c (b+n)=(c b).map (yU n)):mw nd c z (b+n)=(mw nd c z b).map (yU n):=by
 unfold mw
 split
 ·rw[List.map_append,tk hc,List.map_cons,List.map_append,w5,List.map_cons,List.map_nil,B1];have e1:b+n+nd.mn.toNat*z=b+nd.mn.toNat*z+n:=by omega
  have e2:b+nd.mn.toNat*z+n+1=b+nd.mn.toNat*z+1+n:=by omega
  have e3:b+nd.mn.toNat*z+n+z+2=b+nd.mn.toNat*z+z+2+n:=by omega
  rw[e1,e2,e3,hc]
 ·rw[List.map_append,tk hc];have e1:b+n+nd.mn.toNat*z=b+nd.mn.toNat*z+n:=by omega
  rw[e1]
  congr 1
  refine yZ (fun s=>?_) hc _ _;rw[w5]
  congr 1
  omega
mutual
theorem qI (n:Nat):∀(t:Tr) (b:Nat),aE t (b+n)=(aE t b).map (yU n)
 | .mk nd ks,b=>by
  have hc:=fun b=>zA n ks b;have ha:=fun e b=>zM n e ks b;simp only[aE]
  split
  ·rw[List.map_cons,List.map_nil,oO _ _ _ _ (by decide) (by decide)]
  split
  ·rw[List.map_cons,List.map_nil,oO _ _ _ _ (by decide) (by decide)]
  split
  ·rw[List.map_cons,List.map_nil,oO _ _ _ _ (by decide) (by decide)]
  split
  ·exact hc b
  split
  ·rw[Nat.add_right_comm];exact ha _ b
  split
  ·exact ER hc
  split
  ·rw[List.map_cons,List.map_append,List.map_cons,List.map_nil,oO _ _ _ _ (by decide) (by decide),oO _ _ _ _ (by decide) (by decide),Nat.add_right_comm,hc]
  ·rfl
theorem zA (n:Nat):∀(ts:a7) (b:Nat),eN ts (b+n)=(eN ts b).map (yU n)
 | .nil,b=>by simp only[eN,List.map_nil]
 | .cons t ts,b=>by
  have h:=zA n ts (b+t.sz);rw[Nat.add_right_comm] at h;simp only[eN,List.map_append];rw[qI n t b,h]
theorem zM (n:Nat):∀(e:Nat) (ts:a7) (b:Nat),dD (lE (e+n)) ts (b+n)=(dD (lE e) ts b).map (yU n)
 |e,.nil,b=>by simp only[dD,List.map_nil]
 |e,.cons t ts,b=>by
  have h:=zM n e ts (b+t.sz+2);have h1:=qI n t (b+1);have e1:b+t.sz+2+n=b+n+t.sz+2:=by omega
  have e2:b+1+n=b+n+1:=by omega
  have e3:b+1+t.sz+1+n=b+n+1+t.sz+1:=by omega
  rw[e1] at h;rw[e2] at h1;simp only[dD]
  split
  ·exact qI n t b
  ·rw[List.map_cons,List.map_append,List.map_cons,w5,B1,h1,h,e3]
end
def nj (lo hi:Nat) (i:aA):Prop:=i.op≠7∧(i.op=2→((lo:Int)≤i.x∧i.x≤hi)∧(lo:Int)≤i.y∧i.y≤hi)∧(i.op=3→(lo:Int)≤i.x∧i.x≤hi)
theorem nj.mono {lo hi sy gB:Nat} {i:aA} (h:nj lo hi i) (h1:sy≤lo) (h2:hi≤gB):nj sy gB i:=
 ⟨h.1,fun e=>by have:=h.2.1 e;omega,fun e=>by have:=h.2.2 e;omega⟩
theorem nj.mk {lo hi:Nat} {op:Int} (x y:Int) (rs:List Rg) (h2:op≠2) (h3:op≠3) (h7:op≠7):nj lo hi (cq op x y rs):=⟨h7,fun h=>absurd h h2,fun h=>absurd h h3⟩
theorem nj.sp {lo hi s o:Nat} {lz:Bool} (h1:lo≤s+1∧s+1≤hi) (h2:lo≤o∧o≤hi):nj lo hi (mf s o lz):=by
 cases lz
 ·exact⟨by show(2:Int)≠7;decide,fun _=>by show((lo:Int)≤((s+1:Nat):Int)∧((s+1:Nat):Int)≤hi)∧(lo:Int)≤(o:Int)∧(o:Int)≤hi;omega,fun h=>absurd h (by show¬(2:Int)=3;decide)⟩
 ·exact⟨by show(2:Int)≠7;decide,fun _=>by show((lo:Int)≤(o:Int)∧(o:Int)≤hi)∧(lo:Int)≤((s+1:Nat):Int)∧((s+1:Nat):Int)≤hi;omega,fun h=>absurd h (by show¬(2:Int)=3;decide)⟩
theorem nj.jp {lo hi e:Nat} (h1:lo≤e∧e≤hi):nj lo hi (lE e):=
 ⟨by show(3:Int)≠7;decide,fun h=>absurd h (by show¬(3:Int)=2;decide),fun _=>by show(lo:Int)≤(e:Int)∧(e:Int)≤hi;omega⟩
theorem tl {c:Nat→List aA} {z:Nat} (hc:∀b,∀i∈c b,nj b (b+z) i):∀k b,∀i∈ef c z k b,nj b (b+k*z) i
 |0,b,i,hi=>by cases hi
 |k+1,b,i,hi=>by
  simp only[ef] at hi;rw[Nat.succ_mul]
  rcases List.mem_append.1 hi with hi|hi
  ·exact(hc b i hi).mono (Nat.le_refl _) (by omega)
  ·exact(tl hc k _ i hi).mono (by omega) (by omega)
theorem y3 {sp:Nat→aA} {c:Nat→List aA} {z lo hi:Nat} (hs:∀s,lo≤s→s+1≤hi→nj lo hi (sp s)) (hc:∀b,∀i∈c b,nj b (b+z) i):∀k b,lo≤b→b+k*(z+1)≤hi→∀i∈dR sp c z k b,nj lo hi i
 |0,b,_,_,i,gB=>by cases gB
 |k+1,b,h1,h2,i,gB=>by
  simp only[dR] at gB;rw[Nat.succ_mul] at h2
  rcases List.mem_cons.1 gB with rfl|gB
  ·exact hs b h1 (by omega)
  ·rcases List.mem_append.1 gB with gB|gB
   ·exact(hc _ i gB).mono (by omega) (by omega)
   ·exact y3 hs hc k _ (by omega) (by omega) i gB
mutual
theorem qJ:∀(t:Tr) (b:Nat),t.ok→∀i∈aE t b,nj b (b+t.sz) i
 | .mk n ks,b,hok,i,hi=>by
  simp only[Tr.ok] at hok;have hc:=fun b=>zB ks b hok.2;obtain⟨_,hq⟩:=hok.1;simp only[aE] at hi;simp only[Tr.sz]
  by_cases q2:n.op=2
  ·rw[if_pos q2] at hi;simp only[List.mem_cons,List.not_mem_nil,or_false] at hi;subst hi;exact nj.mk _ _ _ (by decide) (by decide) (by decide)
  rw[if_neg q2] at hi
  by_cases q7:n.op=7
  ·rw[if_pos q7] at hi;simp only[List.mem_cons,List.not_mem_nil,or_false] at hi;subst hi;exact nj.mk _ _ _ (by decide) (by decide) (by decide)
  rw[if_neg q7] at hi
  by_cases q8:n.op=8
  ·rw[if_pos q8] at hi;simp only[List.mem_cons,List.not_mem_nil,or_false] at hi;subst hi;exact nj.mk _ _ _ (by decide) (by decide) (by decide)
  rw[if_neg q8] at hi
  have hz:∀s k,ba n s k=if n.op=4 then s+2*(k-1) else if n.op=6 then s+2 else if n.op=5 then(if n.mx=-1 then n.mn.toNat*s+s+2 else n.mn.toNat*s+(n.mx.toNat-n.mn.toNat)*(s+1)) else s:=by
   intro s k;unfold ba;rw[if_neg (by omega)]
  by_cases q3:n.op=3
  ·rw[if_pos q3] at hi;rw[hz,if_neg (by omega),if_neg (by omega),if_neg (by omega)];exact hc b i hi
  rw[if_neg q3] at hi
  by_cases q4:n.op=4
  ·rw[if_pos q4] at hi;have JB:ba n ks.sz ks.len=ks.sz+2*(ks.len-1):=by rw[hz,if_pos q4]
   rw[JB] at hi⊢;exact zO ks b (b+(ks.sz+2*(ks.len-1))) hok.2 (Nat.le_refl _) i hi
  rw[if_neg q4] at hi
  by_cases q5:n.op=5
  ·rw[if_pos q5] at hi;rw[hz,if_neg q4,if_neg (by omega),if_pos q5];unfold mw at hi
   by_cases qm:n.mx=-1
   ·rw[if_pos qm] at hi⊢
    rcases List.mem_append.1 hi with hi|hi
    ·exact(tl hc _ _ i hi).mono (Nat.le_refl _) (by omega)
    ·rcases List.mem_cons.1 hi with rfl|hi
     ·exact nj.sp (by omega) (by omega)
     ·rcases List.mem_append.1 hi with hi|hi
      ·exact(hc _ i hi).mono (by omega) (by omega)
      ·simp only[List.mem_cons,List.not_mem_nil,or_false] at hi;subst hi;exact nj.jp (by omega)
   ·rw[if_neg qm] at hi⊢
    rcases List.mem_append.1 hi with hi|hi
    ·exact(tl hc _ _ i hi).mono (Nat.le_refl _) (by omega)
    ·exact y3 (fun s h1 h2=>nj.sp (by omega) (by omega)) hc _ _ (by omega) (by omega) i hi
  rw[if_neg q5] at hi
  by_cases q6:n.op=6
  ·rw[if_pos q6] at hi;rw[hz,if_neg q4,if_pos q6]
   rcases List.mem_cons.1 hi with rfl|hi
   ·exact nj.mk _ _ _ (by decide) (by decide) (by decide)
   ·rcases List.mem_append.1 hi with hi|hi
    ·exact(hc _ i hi).mono (by omega) (by omega)
    ·simp only[List.mem_cons,List.not_mem_nil,or_false] at hi;subst hi;exact nj.mk _ _ _ (by decide) (by decide) (by decide)
  ·rw[if_neg q6] at hi;cases hi
theorem zB:∀(ts:a7) (b:Nat),ts.ok→∀i∈eN ts b,nj b (b+ts.sz) i
 | .nil,b,_,i,hi=>by simp[eN] at hi
 | .cons t ts,b,hok,i,hi=>by
  simp only[a7.ok] at hok;simp only[eN] at hi;simp only[a7.sz]
  rcases List.mem_append.1 hi with hi|hi
  ·exact(qJ t b hok.1 i hi).mono (Nat.le_refl _) (by omega)
  ·exact(zB ts _ hok.2 i hi).mono (by omega) (by omega)
theorem zO:∀(ts:a7) (b e:Nat),ts.ok→b+(ts.sz+2*(ts.len-1))≤e→∀i∈dD (lE e) ts b,nj b e i
 | .nil,b,e,_,_,i,hi=>by simp[dD] at hi
 | .cons t ts,b,e,hok,he,i,hi=>by
  simp only[a7.ok] at hok;simp only[dD] at hi;simp only[a7.sz,a7.len] at he
  by_cases q:ts.len=0
  ·rw[if_pos q] at hi;exact(qJ t b hok.1 i hi).mono (Nat.le_refl _) (by omega)
  ·rw[if_neg q] at hi
   rcases List.mem_cons.1 hi with rfl|hi
   ·exact nj.sp (by omega) (by omega)
   ·rcases List.mem_append.1 hi with hi|hi
    ·exact(qJ t _ hok.1 i hi).mono (by omega) (by omega)
    ·rcases List.mem_cons.1 hi with rfl|hi
     ·exact nj.jp (by omega)
     ·exact(zO ts _ e hok.2 (by omega) i hi).mono (by omega) (by omega)
end
theorem yt (r:Nat) (c:List aA) (s:List Int):dH [] r c s=⟨c,s,0,0⟩:=by simp only[dH]
def cy (lo hi:Nat) (i:aA):Prop:=
 (i.op=1∧i.x=0∧i.y=0∧ec i.rs=true)∨(i.op=2∧i.rs=[]∧((lo:Int)≤i.x∧i.x≤hi)∧(lo:Int)≤i.y∧i.y≤hi)∨(i.op=3∧i.rs=[]∧i.y=0∧(lo:Int)≤i.x∧i.x≤hi)∨(i.op=4∧i.rs=[]∧i.y=0∧0≤i.x∧i.x<10)∨((i.op=5∨i.op=6)∧i.rs=[]∧i.y=0∧i.x=0)
theorem cy.mono {lo hi sy gB:Nat} {i:aA} (h:cy lo hi i) (h1:sy≤lo) (h2:hi≤gB):cy sy gB i:=by
 rcases h with h|⟨a,b,c,d⟩|⟨a,b,c,d⟩|h|h
 ·exact .inl h
 ·exact .inr (.inl ⟨a,b,by omega,by omega⟩)
 ·exact .inr (.inr (.inl ⟨a,b,c,by omega⟩))
 ·exact .inr (.inr (.inr (.inl h)))
 ·exact .inr (.inr (.inr (.inr h)))
theorem cy.sp {lo hi s o:Nat} {lz:Bool} (h1:lo≤s+1∧s+1≤hi) (h2:lo≤o∧o≤hi):cy lo hi (mf s o lz):=by
 refine .inr (.inl ?_);cases lz
 ·refine⟨rfl,rfl,?_⟩;show((lo:Int)≤((s+1:Nat):Int)∧((s+1:Nat):Int)≤hi)∧(lo:Int)≤(o:Int)∧(o:Int)≤hi;omega
 ·refine⟨rfl,rfl,?_⟩;show((lo:Int)≤(o:Int)∧(o:Int)≤hi)∧(lo:Int)≤((s+1:Nat):Int)∧((s+1:Nat):Int)≤hi;omega
theorem cy.jp {lo hi e:Nat} (h1:lo≤e∧e≤hi):cy lo hi (lE e):=by
 refine .inr (.inr (.inl ⟨rfl,rfl,rfl,?_⟩));show(lo:Int)≤(e:Int)∧(e:Int)≤hi;omega
theorem cy.save {lo hi:Nat} {x:Int} (h:0≤x∧x<10):cy lo hi (cq 4 x 0 []):=.inr (.inr (.inr (.inl ⟨rfl,rfl,rfl,h⟩)))
theorem mz {c:Nat→List aA} {z:Nat} (hc:∀b,∀i∈c b,cy b (b+z) i):∀k b,∀i∈ef c z k b,cy b (b+k*z) i
 |0,b,i,hi=>by cases hi
 |k+1,b,i,hi=>by
  simp only[ef] at hi;rw[Nat.succ_mul]
  rcases List.mem_append.1 hi with hi|hi
  ·exact(hc b i hi).mono (Nat.le_refl _) (by omega)
  ·exact(mz hc k _ i hi).mono (by omega) (by omega)
theorem rZ {sp:Nat→aA} {c:Nat→List aA} {z lo hi:Nat} (hs:∀s,lo≤s→s+1≤hi→cy lo hi (sp s)) (hc:∀b,∀i∈c b,cy b (b+z) i):∀k b,lo≤b→b+k*(z+1)≤hi→∀i∈dR sp c z k b,cy lo hi i
 |0,b,_,_,i,gB=>by cases gB
 |k+1,b,h1,h2,i,gB=>by
  simp only[dR] at gB;rw[Nat.succ_mul] at h2
  rcases List.mem_cons.1 gB with rfl|gB
  ·exact hs b h1 (by omega)
  ·rcases List.mem_append.1 gB with gB|gB
   ·exact(hc _ i gB).mono (by omega) (by omega)
   ·exact rZ hs hc k _ (by omega) (by omega) i gB
def Ee (l:List Nod):Prop:=∀n∈l,n.op=2→ec n.rs=true
mutual
theorem iX:∀(t:Tr) (b:Nat),t.ok→Ee t.flat→∀i∈aE t b,cy b (b+t.sz) i
 | .mk n ks,b,hok,lI,i,hi=>by
  simp only[Tr.ok] at hok;simp only[Tr.flat] at lI;have hc:=fun b=>sV ks b hok.2 (fun n hn=>lI n (List.mem_cons_of_mem _ hn));obtain⟨_,hq⟩:=hok.1;simp only[aE] at hi;simp only[Tr.sz]
  by_cases q2:n.op=2
  ·rw[if_pos q2] at hi;simp only[List.mem_cons,List.not_mem_nil,or_false] at hi;subst hi;exact .inl ⟨rfl,rfl,rfl,lI n (List.mem_cons_self ..) q2⟩
  rw[if_neg q2] at hi
  by_cases q7:n.op=7
  ·rw[if_pos q7] at hi;simp only[List.mem_cons,List.not_mem_nil,or_false] at hi;subst hi;exact .inr (.inr (.inr (.inr ⟨.inl rfl,rfl,rfl,rfl⟩)))
  rw[if_neg q7] at hi
  by_cases q8:n.op=8
  ·rw[if_pos q8] at hi;simp only[List.mem_cons,List.not_mem_nil,or_false] at hi;subst hi;exact .inr (.inr (.inr (.inr ⟨.inr rfl,rfl,rfl,rfl⟩)))
  rw[if_neg q8] at hi
  have hz:∀s k,ba n s k=if n.op=4 then s+2*(k-1) else if n.op=6 then s+2 else if n.op=5 then(if n.mx=-1 then n.mn.toNat*s+s+2 else n.mn.toNat*s+(n.mx.toNat-n.mn.toNat)*(s+1)) else s:=by
   intro s k;unfold ba;rw[if_neg (by omega)]
  by_cases q3:n.op=3
  ·rw[if_pos q3] at hi;rw[hz,if_neg (by omega),if_neg (by omega),if_neg (by omega)];exact hc b i hi
  rw[if_neg q3] at hi
  by_cases q4:n.op=4
  ·rw[if_pos q4] at hi;have JB:ba n ks.sz ks.len=ks.sz+2*(ks.len-1):=by rw[hz,if_pos q4]
   rw[JB] at hi⊢;exact sZ ks b (b+(ks.sz+2*(ks.len-1))) hok.2 (fun n hn=>lI n (List.mem_cons_of_mem _ hn)) (Nat.le_refl _) i hi
  rw[if_neg q4] at hi
  by_cases q5:n.op=5
  ·rw[if_pos q5] at hi;rw[hz,if_neg q4,if_neg (by omega),if_pos q5];unfold mw at hi
   by_cases qx:n.mx=-1
   ·rw[if_pos qx] at hi⊢
    rcases List.mem_append.1 hi with hi|hi
    ·exact(mz hc _ _ i hi).mono (Nat.le_refl _) (by omega)
    ·rcases List.mem_cons.1 hi with rfl|hi
     ·exact cy.sp (by omega) (by omega)
     ·rcases List.mem_append.1 hi with hi|hi
      ·exact(hc _ i hi).mono (by omega) (by omega)
      ·simp only[List.mem_cons,List.not_mem_nil,or_false] at hi;subst hi;exact cy.jp (by omega)
   ·rw[if_neg qx] at hi⊢
    rcases List.mem_append.1 hi with hi|hi
    ·exact(mz hc _ _ i hi).mono (Nat.le_refl _) (by omega)
    ·exact rZ (fun s h1 h2=>cy.sp (by omega) (by omega)) hc _ _ (by omega) (by omega) i hi
  rw[if_neg q5] at hi
  by_cases q6:n.op=6
  ·rw[if_pos q6] at hi;rw[hz,if_neg q4,if_pos q6]
   rcases List.mem_cons.1 hi with rfl|hi
   ·exact cy.save (by omega)
   ·rcases List.mem_append.1 hi with hi|hi
    ·exact(hc _ i hi).mono (by omega) (by omega)
    ·simp only[List.mem_cons,List.not_mem_nil,or_false] at hi;subst hi;exact cy.save (by omega)
  ·rw[if_neg q6] at hi;cases hi
theorem sV:∀(ts:a7) (b:Nat),ts.ok→Ee ts.flat→∀i∈eN ts b,cy b (b+ts.sz) i
 | .nil,b,_,_,i,hi=>by simp[eN] at hi
 | .cons t ts,b,hok,lI,i,hi=>by
  simp only[a7.ok] at hok;simp only[a7.flat] at lI;simp only[eN] at hi;simp only[a7.sz]
  rcases List.mem_append.1 hi with hi|hi
  ·exact(iX t b hok.1 (fun n hn=>lI n (List.mem_append_left _ hn)) i hi).mono (Nat.le_refl _) (by omega)
  ·exact(sV ts _ hok.2 (fun n hn=>lI n (List.mem_append_right _ hn)) i hi).mono (by omega) (by omega)
theorem sZ:∀(ts:a7) (b e:Nat),ts.ok→Ee ts.flat→b+(ts.sz+2*(ts.len-1))≤e→∀i∈dD (lE e) ts b,cy b e i
 | .nil,b,e,_,_,_,i,hi=>by simp[dD] at hi
 | .cons t ts,b,e,hok,lI,he,i,hi=>by
  simp only[a7.ok] at hok;simp only[a7.flat] at lI;simp only[dD] at hi;simp only[a7.sz,a7.len] at he;have h1:Ee t.flat:=fun n hn=>lI n (List.mem_append_left _ hn);have h2:Ee ts.flat:=fun n hn=>lI n (List.mem_append_right _ hn)
  by_cases q:ts.len=0
  ·rw[if_pos q] at hi;exact(iX t b hok.1 h1 i hi).mono (Nat.le_refl _) (by omega)
  ·rw[if_neg q] at hi
   rcases List.mem_cons.1 hi with rfl|hi
   ·exact cy.sp (by omega) (by omega)
   ·rcases List.mem_append.1 hi with hi|hi
    ·exact(iX t _ hok.1 h1 i hi).mono (by omega) (by omega)
    ·rcases List.mem_cons.1 hi with rfl|hi
     ·exact cy.jp (by omega)
     ·exact(sZ ts _ e hok.2 h2 (by omega) i hi).mono (by omega) (by omega)
end
inductive Path (C:List aA):Nat→Nat→Prop where
 |refl (u:Nat):Path C u u
 |step {u v w:Nat} {i:aA} (h:C[u]?=some i) (hn:(v:Int)∈bG u i) (p:Path C v w):Path C u w
theorem Path.trans {C:List aA} {u v w:Nat} (h:Path C u v) (g:Path C v w):Path C u w:=by
 induction h with
 |refl=>exact g
 |step h hn _ ih=>exact .step h hn (ih g)
theorem Path.yf {C:List aA} {u:Nat} {i:aA} (h:C[u]?=some i) (ho:i.op≠2∧i.op≠3∧i.op≠7):Path C u (u+1):=
 .step h (by unfold bG;rw[if_neg ho.1,if_neg ho.2.1,if_neg ho.2.2];exact List.mem_cons_self ..) (.refl _)
theorem Path.jp {C:List aA} {u e:Nat} (h:C[u]?=some (lE e)):Path C u e:=
 .step h (by show(e:Int)∈bG u (cq 3 (e:Nat) 0 []);unfold bG;rw[if_neg (show¬(cq 3 (e:Nat) 0 []).op=2 by show¬(3:Int)=2;decide),if_pos (show(cq 3 (e:Nat) 0 []).op=3 from rfl)];exact List.mem_cons_self ..) (.refl _)
theorem Path.sp {C:List aA} {u s o:Nat} {lz:Bool} (h:C[u]?=some (mf s o lz)):Path C u (s+1)∧Path C u o:=by
 have hn:bG u (mf s o lz)=[(mf s o lz).x,(mf s o lz).y]:=by
  unfold bG;rw[if_pos (by cases lz<;>rfl)]
 cases lz
 ·exact⟨.step h (by rw[hn];exact List.mem_cons_self ..) (.refl _),.step h (by rw[hn];exact List.mem_cons_of_mem _ (List.mem_cons_self ..)) (.refl _)⟩
 ·exact⟨.step h (by rw[hn];exact List.mem_cons_of_mem _ (List.mem_cons_self ..)) (.refl _),.step h (by rw[hn];exact List.mem_cons_self ..) (.refl _)⟩
theorem my {C:List aA} {c:Nat→List aA} {z:Nat} (hl:∀b,(c b).length=z) (hc:∀b,eB C b (c b)→Path C b (b+z)):∀k b,eB C b (ef c z k b)→Path C b (b+k*z)
 |0,b,_=>by rw[Nat.zero_mul];exact .refl _
 |k+1,b,h=>by
  rw[ef] at h;have h2:=h.right;rw[hl] at h2;have:=my hl hc k (b+z) h2;rw[Nat.succ_mul,show b+(k*z+z)=b+z+k*z by omega];exact(hc b h.left).trans this
theorem Bl {C : List aA} : ∀ (m : Nat) (t : Tr), t.flat.length ≤ m → ∀ b : Nat, t.ok → eB C b (aE t b) → Path C b (b + t.sz) := by
  intro m
  induction m with
  | zero => intro t h; have := t.gy; omega
  | succ m ih =>
    rintro ⟨n, ks⟩ hm b hok h
    simp only [Tr.flat, List.length_cons] at hm
    simp only [Tr.ok] at hok
    have hcat : ∀ (ts : a7) (b : Nat), ts.flat.length ≤ m → ts.ok → eB C b (eN ts b) → Path C b (b + ts.sz) := by
      intro ts
      induction ts using a7.rec (motive_1 := fun _ => True) with
      | mk => trivial
      | nil => intro b _ _ _; exact .refl _
      | cons t ts _ zf =>
        intro b h1 h2 h3
        simp only [a7.flat, List.length_append] at h1
        simp only [a7.ok] at h2
        simp only [eN] at h3
        have h4 := h3.right
        rw [bN t b h2.1] at h4
        have h5 := zf (b + t.sz) (by omega) h2.2 h4
        simp only [a7.sz]
        rw [← Nat.add_assoc]
        exact (ih t (by omega) b h2.1 h3.left).trans h5
    obtain ⟨mT, kU⟩ := hok
    obtain ⟨_, hq⟩ := mT
    have fS := fun b => lW ks b kU
    simp only [aE] at h
    simp only [Tr.sz]
    have hz : ∀ s k, ba n s k = if n.op = 2 ∨ n.op = 7 ∨ n.op = 8 then 1 else if n.op = 4 then s + 2 * (k - 1) else if n.op = 6 then s + 2 else if n.op = 5 then (if n.mx = -1 then n.mn.toNat * s + s + 2 else n.mn.toNat * s + (n.mx.toNat - n.mn.toNat) * (s + 1)) else s := fun s k => rfl
    rw [hz]
    by_cases q2 : n.op = 2
    · rw [if_pos q2] at h
      rw [if_pos (.inl q2)]
      exact Path.yf h.head (by show (1 : Int) ≠ 2 ∧ (1 : Int) ≠ 3 ∧ (1 : Int) ≠ 7; decide)
    rw [if_neg q2] at h
    by_cases q7 : n.op = 7
    · rw [if_pos q7] at h
      rw [if_pos (.inr (.inl q7))]
      exact Path.yf h.head (by show (5 : Int) ≠ 2 ∧ (5 : Int) ≠ 3 ∧ (5 : Int) ≠ 7; decide)
    rw [if_neg q7] at h
    by_cases q8 : n.op = 8
    · rw [if_pos q8] at h
      rw [if_pos (.inr (.inr q8))]
      exact Path.yf h.head (by show (6 : Int) ≠ 2 ∧ (6 : Int) ≠ 3 ∧ (6 : Int) ≠ 7; decide)
    rw [if_neg q8] at h
    rw [if_neg (by omega)]
    by_cases q3 : n.op = 3
    · rw [if_pos q3] at h
      rw [if_neg (by omega), if_neg (by omega), if_neg (by omega)]
      exact hcat ks b (by omega) kU h
    rw [if_neg q3] at h
    by_cases q4 : n.op = 4
    · rw [if_pos q4] at h
      have JB : ba n ks.sz ks.len = ks.sz + 2 * (ks.len - 1) := by rw [hz, if_neg (by omega), if_pos q4]
      rw [JB] at h
      rw [if_pos q4]
      cases ks with
      | nil => simp only [a7.len] at hq; omega
      | cons t ts =>
        simp only [a7.len] at hq
        simp only [a7.flat, List.length_append] at hm
        simp only [a7.ok] at kU
        simp only [dD] at h
        rw [if_neg (by omega)] at h
        have h1 := (Path.sp h.head).1
        have h2 := ih t (by omega) (b + 1) kU.1 h.tail.left
        have h3 := h.tail.right
        rw [bN t _ kU.1] at h3
        exact h1.trans (h2.trans (Path.jp h3.head))
    rw [if_neg q4] at h
    rw [if_neg q4]
    by_cases q5 : n.op = 5
    · rw [if_pos q5] at h
      rw [if_neg (by omega), if_pos q5]
      unfold mw at h
      by_cases qx : n.mx = -1
      · rw [if_pos qx] at h ⊢
        have h1 := my fS (fun b hb => hcat ks b (by omega) kU hb) _ _ h.left
        have h2 := h.right
        rw [ie fS] at h2
        have h3 := (Path.sp h2.head).2
        rw [show b + (n.mn.toNat * ks.sz + ks.sz + 2) = b + n.mn.toNat * ks.sz + ks.sz + 2 by omega]
        exact h1.trans h3
      · rw [if_neg qx] at h ⊢
        have h1 := my fS (fun b hb => hcat ks b (by omega) kU hb) _ _ h.left
        have h2 := h.right
        rw [ie fS] at h2
        by_cases hd : n.mx.toNat - n.mn.toNat = 0
        · rw [hd, Nat.zero_mul, Nat.add_zero]; exact h1
        · obtain ⟨d, uj⟩ : ∃ d, n.mx.toNat - n.mn.toNat = d + 1 := ⟨n.mx.toNat - n.mn.toNat - 1, by omega⟩
          rw [uj] at h2 ⊢
          rw [dR] at h2
          have h3 := (Path.sp h2.head).2
          rw [← Nat.add_assoc]
          exact h1.trans h3
    rw [if_neg q5] at h
    by_cases q6 : n.op = 6
    · rw [if_pos q6] at h
      rw [if_pos q6]
      have h1 : Path C b (b + 1) := Path.yf h.head (by show (4 : Int) ≠ 2 ∧ (4 : Int) ≠ 3 ∧ (4 : Int) ≠ 7; decide)
      have h2 := hcat ks (b + 1) (by omega) kU h.tail.left
      have h3 := h.tail.right
      rw [fS] at h3
      have h4 : Path C (b + 1 + ks.sz) (b + 1 + ks.sz + 1) := Path.yf h3.head (by show (4 : Int) ≠ 2 ∧ (4 : Int) ≠ 3 ∧ (4 : Int) ≠ 7; decide)
      rw [show b + (ks.sz + 2) = b + 1 + ks.sz + 1 by omega]
      exact h1.trans (h2.trans h4)
    · have xW : ks.len = 0 := by omega
      have := a7.len_nil xW
      subst this
      rw [if_neg q6, if_neg q5]
      exact .refl _
theorem yk {code:List aA} {I:Nat→Prop} (hI:∀u i,I u→code[u]?=some i→∀v∈bG u i,I v.toNat):∀(f:Nat) (seen:List Bool) (fN:List Int),(∀v∈fN,I v.toNat)→(∀u:Nat,seen[u]?=some true→I u)→∀u:Nat,(yl code f seen fN)[u]?=some true→I u
 |0,seen,fN,_,h2,u,h=>h2 u h
 |f+1,seen,[],_,h2,u,h=>h2 u h
 |f+1,seen,v::fN,h1,h2,u,h=>by
  have hv:=h1 v (List.mem_cons_self ..);have hs:∀w∈fN,I w.toNat:=fun w hw=>h1 w (List.mem_cons_of_mem _ hw);unfold yl at h
  split at h
  ·split at h
   ·rename_i i hi;refine yk hI f _ _ (fun w hw=>?_) (fun w hw=>?_) u h
    ·rcases List.mem_append.1 hw with hw|hw
     ·exact hI _ i hv hi w (List.mem_reverse.1 hw)
     ·exact hs w hw
    ·by_cases he:v.toNat=w
     ·rw[←he];exact hv
     ·rw[List.getElem?_set_ne he] at hw;exact h2 w hw
   ·exact h2 u h
  ·exact yk hI f _ _ hs h2 u h
theorem Av {code:List aA} {start:Int} (hcl:gT code) (f_:0≤start∧start<(code.length:Int)) {u v:Nat} (p:Path code u v):(a_ code start)[u]?=some true→(a_ code start)[v]?=some true:=by
 obtain⟨ha,_,_,_⟩:=lj hcl f_
 induction p with
 |refl=>exact id
 |@step u v w i h hn _ ih=>
  intro hu;refine ih ?_
  rcases ha u i hu h _ hn with hs|hs
  ·exact cK.2 hs
  ·cases hs
theorem uV {code:List aA} {s:Nat} (hcl:gT code) (hs:s<code.length):(a_ code (s:Nat))[s]?=some true:=by
 obtain⟨_,_,_,hd⟩:=lj (start:=((s:Nat):Int)) hcl ⟨by omega,by omega⟩
 rcases hd with hd|hd
 ·exact cK.2 hd
 ·cases hd
mutual
theorem Tr.Ms:∀t:Tr,True
 | .mk _ _=>trivial
theorem a7.Ms:∀t:a7,True
 | .nil=>trivial
 | .cons _ _=>trivial
end
theorem B0 {n:Nod} {g:Int} (h:(d_ n g).2=true) (h2:n.op=2):ec n.rs=true:=by
 unfold d_ at h
 split at h
 ·cases h
 ·rw[if_neg (show¬(n.op=1∨n.op=7∨n.op=8) by omega)] at h;have h:(n.kids==0 &&ec n.rs)=true:=h;rw[Bool.and_eq_true] at h;exact h.2
theorem ze {l:List Nod} {h:Nat→Nat→Option (Nat×Nat)} (ih:∀at_ g r,h at_ g=some r→at_≤r.1∧∀j n,at_≤j→j<r.1→l[j]?=some n→n.op=2→ec n.rs=true):∀k at_ g r,iu h k at_ g=some r→at_≤r.1∧∀j n,at_≤j→j<r.1→l[j]?=some n→n.op=2→ec n.rs=true
 |0,at_,g,r,e=>by
  simp only[iu,Option.some.injEq] at e;subst e;exact⟨Nat.le_refl _,fun j n h1 h2=>by simp only at h2;omega⟩
 |k+1,at_,g,r,e=>by
  unfold iu at e
  cases hq:h at_ g with
  |none=>rw[hq] at e;cases e
  |some q=>
   rw[hq] at e;obtain⟨t1,t2⟩:=ih _ _ _ hq;obtain⟨u1,u2⟩:=ze ih k _ _ _ e;refine⟨Nat.le_trans t1 u1,fun j n h1 h2 hj ho=>?_⟩
   by_cases TN:j<q.1
   ·exact t2 j n h1 TN hj ho
   ·exact u2 j n (by omega) h2 hj ho
theorem Cq {l:List Nod}:∀f at_ g r,gq l f at_ g=some r→at_≤r.1∧∀j n,at_≤j→j<r.1→l[j]?=some n→n.op=2→ec n.rs=true
 |0,_,_,_,e=>by simp[gq] at e
 |f+1,at_,g,r,e=>by
  unfold gq at e
  cases hn:l[at_]? with
  |none=>rw[hn] at e;cases e
  |some n=>
   rw[hn] at e;simp only at e
   split at e
   ·rename_i hs;obtain⟨u1,u2⟩:=ze (Cq f) _ _ _ _ e;refine⟨by omega,fun j m h1 h2 hj ho=>?_⟩
    by_cases TP:j=at_
    ·subst TP;rw[hn] at hj;cases hj;exact B0 hs ho
    ·exact u2 j m (by omega) h2 hj ho
   ·cases e
theorem B7 {l:List Nod} (h:e6 l=true):Ee l:=by
 unfold e6 at h;simp only[Bool.and_eq_true] at h;obtain⟨_,h⟩:=h
 split at h
 ·rename_i r hr;rw[decide_eq_true_eq] at h;obtain⟨_,h2⟩:=Cq _ _ _ _ hr;intro n hn ho;obtain⟨j,hj⟩:=List.getElem?_of_mem hn;exact h2 j n (Nat.zero_le _) (by rw[h];exact lt_get hj) hj ho
 ·cases h
structure Ix (n0 r0:Nat) (C:List aA) (B:List Int) (k:Nat):Prop where
 bl:B.length=k
 fs:0<k→B[0]?=some ((n0:Nat):Int)
 el:∀j,j<k→∃(t:Tr) (b:Nat),t.ok∧Ee t.flat∧B[j]?=some (b:Int)∧n0≤b∧(∀b':Int,B[j+1]?=some b'→b'=((b+t.sz+3:Nat):Int))∧(j+1=k→n0+C.length=b+t.sz+3)∧∃pre post,C=pre++dE t b (r0+j)++post∧n0+pre.length=b
 al:∀i q,C[i]?=some q→∃j,j<k∧∃(t:Tr) (b:Nat),B[j]?=some (b:Int)∧t.ok∧Ee t.flat∧b≤n0+i∧n0+i<b+t.sz+3∧b+t.sz+3≤n0+C.length∧q∈dE t b (r0+j)∧(dE t b (r0+j))[n0+i-b]?=some q
theorem qH:∀(ls:List (List Nod)) (r:Nat) (c:List aA) (s:List Int),(dH ls r c s).e=0→∃C B,(dH ls r c s).code=c++C∧(dH ls r c s).ah=s++B∧Ix c.length r C B ls.length
 |[],r,c,s,h=>by
  rw[yt];exact⟨[],[],by simp,by simp,rfl,fun h=>by simp at h,fun j hj=>by simp at hj,fun i q hi=>by simp at hi⟩
 |l::ls,r,c,s,h=>by
  rw[dH] at h⊢
  by_cases hr:e6 l=false
  ·rw[if_pos hr] at h;cases h
  rw[if_neg hr] at h⊢;rw[Bool.not_eq_false] at hr
  by_cases hb:400<c.length+min (bW l).sz 401+3
  ·rw[if_pos hb] at h;cases h
  rw[if_neg hb] at h⊢;obtain⟨t1,t2⟩:=tb hr;have lI:Ee (bW l).flat:=by rw[t2];exact B7 hr
  have hlen:=jU (b:=c.length) (r:=r) t1;obtain⟨C,B,h1,h2,h3⟩:=qH ls (r+1) _ _ h;rw[List.length_append,hlen] at h3;refine⟨dE (bW l) c.length r++C,((c.length:Nat):Int)::B,by rw[h1,List.append_assoc],by rw[h2,List.append_assoc];rfl,by simp[h3.bl],fun _=>rfl,fun j hj=>?_,fun i q hi=>?_⟩
  ·cases j with
   |zero=>
    refine⟨bW l,c.length,t1,lI,rfl,Nat.le_refl _,fun b' db=>?_,fun HL=>?_,[],C,by simp,by simp⟩
    ·simp only[Nat.zero_add,List.getElem?_cons_succ] at db;have hB:=h3.bl;have hlt:=lt_get db;rw[h3.fs (by omega)] at db;cases db
     congr 1
    ·simp only[List.length_cons] at HL;have Eo:ls.length=0:=by omega
     have hC:C=[]:=by
      cases hc:C with
      |nil=>rfl
      |cons q C'=>
       obtain⟨j,hj,_⟩:=h3.al 0 q (by rw[hc];rfl);omega
     rw[hC,List.append_nil,hlen];omega
   |succ j=>
    simp only[List.length_cons] at hj;obtain⟨t,b,q1,q2,q3,q4,q5,q6,pre,post,q7,q8⟩:=h3.el j (by omega);refine⟨t,b,q1,q2,q3,by omega,q5,fun HL=>?_,dE (bW l) c.length r++pre,post,?_,?_⟩
    ·simp only[List.length_cons] at HL;have:=q6 (by omega);rw[List.length_append,hlen];omega
    ·rw[q7,show r+1+j=r+(j+1) by omega];simp only[List.append_assoc]
    ·rw[List.length_append,hlen];omega
  ·by_cases hil:i<(dE (bW l) c.length r).length
   ·rw[List.getElem?_append_left hil] at hi;refine⟨0,by simp,bW l,c.length,rfl,t1,lI,by omega,by omega,by rw[List.length_append,hlen];omega,List.mem_of_getElem? hi,?_⟩;rw[show c.length+i-c.length=i by omega];exact hi
   ·rw[List.getElem?_append_right (by omega)] at hi;obtain⟨j,q1,t,b,q2,q3,q4,q5,q6,q7,q8,q9⟩:=h3.al _ q hi;rw[hlen] at q5 q6 q9 hil;refine⟨j+1,by simp only[List.length_cons];omega,t,b,q2,q3,q4,by omega,by omega,by rw[List.length_append,hlen];omega,by rw[show r+(j+1)=r+1+j by omega];exact q8,?_⟩;rw[show r+(j+1)=r+1+j by omega,show c.length+i-b=c.length+((bW l).sz+3)+(i-((bW l).sz+3))-b by omega];exact q9
theorem A9 {lo hi u:Nat} {i:aA} (h:cy lo hi i) (h1:lo≤u+1) (h2:u+1≤hi):∀v∈bG u i,(lo:Int)≤v∧v≤hi:=by
 intro v hv;unfold bG at hv
 rcases h with⟨a,_⟩|⟨a,_,c,d⟩|⟨a,_,_,d⟩|⟨a,_⟩|⟨a,_⟩
 ·rw[if_neg (by omega),if_neg (by omega),if_neg (by omega)] at hv;simp only[List.mem_cons,List.not_mem_nil,or_false] at hv;omega
 ·rw[if_pos a] at hv;simp only[List.mem_cons,List.not_mem_nil,or_false] at hv
  rcases hv with rfl|rfl<;>omega
 ·rw[if_neg (by omega),if_pos a] at hv;simp only[List.mem_cons,List.not_mem_nil,or_false] at hv;omega
 ·rw[if_neg (by omega),if_neg (by omega),if_neg (by omega)] at hv;simp only[List.mem_cons,List.not_mem_nil,or_false] at hv;omega
 ·rw[if_neg (by omega),if_neg (by omega),if_neg (by omega)] at hv;simp only[List.mem_cons,List.not_mem_nil,or_false] at hv;omega
theorem vZ {lo hi n ns pc:Nat} {i:aA} (h:cy lo hi i) (h1:hi<n) (h2:pc+1<n):cF n ns pc i=true:=by
 have HM:∀v:Int,(lo:Int)≤v→v≤hi→pG v n=true:=fun v a b=>da.2 ⟨by omega,by omega⟩;have hd:decide (((pc+1:Nat):Int)<n)=true:=by rw[decide_eq_true_eq];omega
 unfold cF
 rcases h with⟨a,b,c,d⟩|⟨a,b,c,d⟩|⟨a,b,c,d⟩|⟨a,b,c,d⟩|⟨a,b,c,d⟩
 ·rw[if_pos a,hd,b,c,d];rfl
 ·rw[if_neg (by omega),if_pos a,b,HM _ c.1 c.2,HM _ d.1 d.2];rfl
 ·rw[if_neg (by omega),if_neg (by omega),if_pos a,b,c,HM _ d.1 d.2];rfl
 ·rw[if_neg (by omega),if_neg (by omega),if_neg (by omega),if_pos a,b,c,hd,da.2 ⟨d.1,d.2⟩];rfl
 ·rw[if_neg (by omega),if_neg (by omega),if_neg (by omega),if_neg (by omega),if_pos a,b,c,hd,d];rfl
theorem mr {t:Tr} {b r o:Nat} {q:aA} (h1:t.ok) (h2:Ee t.flat) (h:(dE t b r)[o]?=some q):(o<t.sz+2∧cy b (b+t.sz+2) q)∨(o=t.sz+2∧q=cq 7 (r:Nat) 0 []):=by
 have hl:=bN t (b+1) h1;have hA:dE t b r=(cq 4 0 0 []::(aE t (b+1)++[cq 4 1 0 []]))++[cq 7 (r:Nat) 0 []]:=by unfold dE;simp
 have UE:(cq 4 0 0 []::(aE t (b+1)++[cq 4 1 0 []])).length=t.sz+2:=by simp[hl]
 rw[hA] at h
 by_cases ho:o<t.sz+2
 ·rw[List.getElem?_append_left (by omega)] at h;refine .inl ⟨ho,?_⟩;have hm:=List.mem_of_getElem? h
  rcases List.mem_cons.1 hm with rfl|hm
  ·exact cy.save (by omega)
  ·rcases List.mem_append.1 hm with hm|hm
   ·exact(iX t (b+1) h1 h2 q hm).mono (by omega) (by omega)
   ·simp only[List.mem_cons,List.not_mem_nil,or_false] at hm;subst hm;exact cy.save (by omega)
 ·rw[List.getElem?_append_right (by omega),UE] at h;have h0:=lt_get h;simp only[List.length_cons,List.length_nil] at h0;have sF:o=t.sz+2:=by omega
  refine .inr ⟨sF,?_⟩;rw[sF,Nat.sub_self] at h;exact(Option.some.inj h).symm
structure Lv (p:Pg) (r s e:Nat):Prop where
 st:p.ah[r]?=some (s:Int)
 se:s<e
 el:e≤p.code.length
 nx:∀b':Int,p.ah[r+1]?=some b'→b'=(e:Int)
 la:r+1=p.ah.length→p.code.length=e
 mt:p.code[e-1]?=some (cq 7 (r:Nat) 0 [])
 fi:(o5 p (r:Nat))[0]?=some (s:Int)
 lt:(o5 p (r:Nat))[(o5 p (r:Nat)).length-1]?=some ((e-1:Nat):Int)
theorem Al {X:List Int} {a b:Int} (hp:X.Pairwise (·<·)) (ha:a∈X) (hb:b∈X) (h:∀v∈X,a≤v∧v≤b):X[0]?=some a∧X[X.length-1]?=some b:=by
 obtain⟨i,hi⟩:=List.getElem?_of_mem ha;obtain⟨j,hj⟩:=List.getElem?_of_mem hb;have hil:=lt_get hi;have iS:=lt_get hj
 have hlt:∀u v (x y:Int),u<v→X[u]?=some x→X[v]?=some y→x<y:=fun u v x y R8 hx hy=>by
  have:=List.pairwise_iff_getElem.1 hp u v (lt_get hx) (lt_get hy) R8;have ex:X[u]'(lt_get hx)=x:=Option.some.inj ((List.getElem?_eq_getElem _).symm.trans hx);have ey:X[v]'(lt_get hy)=y:=Option.some.inj ((List.getElem?_eq_getElem _).symm.trans hy);rw[ex,ey] at this;exact this
 constructor
 ·obtain⟨x,hx⟩:∃x,X[0]?=some x:=⟨X[0]'(by omega),List.getElem?_eq_getElem _⟩
  have:=h x (List.mem_of_getElem? hx)
  by_cases h0:i=0
  ·rw[←h0];exact hi
  ·have:=hlt 0 i x a (by omega) hx hi;omega
 ·obtain⟨x,hx⟩:∃x,X[X.length-1]?=some x:=⟨X[X.length-1]'(by omega),List.getElem?_eq_getElem _⟩
  have:=h x (List.mem_of_getElem? hx)
  by_cases h0:j=X.length-1
  ·rw[←h0];exact hj
  ·have:=hlt j (X.length-1) b x (by omega) hj hx;omega
theorem xE {parts:List (List Nod)} (hl:parts.length≤8) (he:(compileS parts).e=0) (hcl:(compileS parts).code.length≤400):
  aO (pgV (compileS parts).code (compileS parts).ah)∧(compileS parts).ah.length=parts.length∧∀r,r<parts.length→∃s e,Lv (pgV (compileS parts).code (compileS parts).ah) r s e:=by
 have gM:compileS parts=dH parts 0 [] []:=by unfold compileS;rw[if_neg (by omega)]
 rw[gM] at he hcl⊢;obtain⟨C,B,h1,h2,h3⟩:=qH parts 0 [] [] he;simp only[List.nil_append] at h1 h2;simp only[List.length_nil] at h3;rw[h1] at hcl;rw[h1,h2];have KH:=h3.bl
 have hsh:∀pc i,C[pc]?=some i→cF C.length B.length pc i=true:=by
  intro pc i hi;obtain⟨j,q1,t,b,q2,q3,q4,q5,q6,q7,q8,q9⟩:=h3.al pc i hi;rw[Nat.zero_add] at q9
  rcases mr q3 q4 q9 with⟨g1,g2⟩|⟨g1,g2⟩
  ·exact vZ g2 (by omega) (by omega)
  ·rw[g2];have:pG ((j:Nat):Int) B.length=true:=da.2 ⟨by omega,by omega⟩;unfold cF cq;simp[this]
 have Kp:gT C:=mZ (p:=pgV C B) hsh
 have CX:∀r,r<parts.length→∃s e:Nat,B[r]?=some (s:Int)∧s<e∧e≤C.length∧(∀b':Int,B[r+1]?=some b'→b'=(e:Int))∧(r+1=parts.length→C.length=e)∧C[e-1]?=some (cq 7 (r:Nat) 0 [])∧(∀u:Nat,(a_ C (s:Nat))[u]?=some true→s≤u∧u<e)∧(a_ C (s:Nat))[s]?=some true∧(a_ C (s:Nat))[e-1]?=some true∧∀u i,s≤u→u<e→C[u]?=some i→i.op=7→i.x=(r:Int):=by
  intro r hr;obtain⟨t,b,q1,q2,q3,q4,q5,q6,pre,post,q7,q8⟩:=h3.el r hr;rw[Nat.zero_add] at q6 q8;rw[Nat.zero_add] at q7;have pL:=jU (b:=b) (r:=r) q1;have I1:C.length=b+(t.sz+3)+post.length:=by rw[q7,List.length_append,List.length_append,pL,q8]
  have gC:∀u,b≤u→u<b+t.sz+3→C[u]?=(dE t b r)[u-b]?:=fun u g1 g2=>by
   rw[q7,List.append_assoc,List.getElem?_append_right (by omega),q8,List.getElem?_append_left (by omega)]
  have iO:eB C b (dE t b r):=⟨post,by rw[q7,List.append_assoc,←q8,List.drop_left]⟩
  have HM:∀u:Nat,(a_ C (b:Nat))[u]?=some true→b≤u∧u<b+t.sz+3:=by
   unfold a_;refine yk (I:=fun u=>b≤u∧u<b+t.sz+3) (fun u i hu hi v hv=>?_) _ _ _ (fun v hv=>?_) (fun u hu=>?_)
   ·rw[gC u hu.1 hu.2] at hi
    rcases mr q1 q2 hi with⟨g1,g2⟩|⟨g1,g2⟩
    ·have:=A9 (u:=u) g2 (by omega) (by omega) v hv;omega
    ·rw[g2] at hv;have:bG u (cq 7 (r:Nat) 0 [])=[]:=by unfold bG cq;simp
     rw[this] at hv;cases hv
   ·simp only[List.mem_cons,List.not_mem_nil,or_false] at hv;subst hv;rw[Int.toNat_natCast];omega
   ·rw[List.getElem?_replicate] at hu
    split at hu<;>cases hu
  have hs:=uV (s:=b) Kp (by omega)
  have S7:C[b+t.sz+3-1]?=some (cq 7 (r:Nat) 0 []):=by
   rw[gC _ (by omega) (by omega)];unfold dE;have tS:=bN t (b+1) q1;rw[show b+t.sz+3-1-b=(t.sz+1)+1 by omega,List.getElem?_cons_succ,List.getElem?_append_right (by omega),tS,show t.sz+1-t.sz=1 by omega]
   rfl
  have JX:Path C b (b+t.sz+3-1):=by
   unfold dE at iO;have p1:Path C b (b+1):=Path.yf iO.head (by show(4:Int)≠2∧(4:Int)≠3∧(4:Int)≠7;decide);have p2:=Bl (C:=C) _ t (Nat.le_refl _) (b+1) q1 iO.tail.left;have h4:=iO.tail.right;rw[bN t _ q1] at h4;have p3:Path C (b+1+t.sz) (b+1+t.sz+1):=Path.yf h4.head (by show(4:Int)≠2∧(4:Int)≠3∧(4:Int)≠7;decide);rw[show b+t.sz+3-1=b+1+t.sz+1 by omega];exact p1.trans (p2.trans p3)
  refine⟨b,b+t.sz+3,q3,by omega,by omega,fun b' db=>q5 b' db,q6,S7,HM,hs,Av Kp ⟨by omega,by omega⟩ JX hs,fun u i g1 g2 hi ho=>?_⟩;rw[gC u g1 g2] at hi
  rcases mr q1 q2 hi with⟨_,g3⟩|⟨_,g3⟩
  ·rcases g3 with⟨a,_⟩|⟨a,_⟩|⟨a,_⟩|⟨a,_⟩|⟨a,_⟩<;>omega
  ·rw[g3];rfl
 have hR:aO (pgV C B):=by
  refine⟨hcl,by show B.length≤8;omega,hsh,fun v hv=>?_,fun r s hs pc i C4 JO hi ho=>?_⟩
  ·obtain⟨r,hr⟩:=List.getElem?_of_mem (show v∈B from hv);obtain⟨s,e,g1,g2,g3,_⟩:=CX r (by rw[←KH];exact lt_get hr);rw[g1] at hr;cases hr;show(0:Int)≤(s:Int)∧(s:Int)<(C.length:Int);omega
  ·have hs:B[r]?=some s:=hs;obtain⟨s',e,g1,g2,g3,g4,g5,g6,g7,g8,g9,g10⟩:=CX r (by rw[←KH];exact lt_get hs);rw[g1] at hs;cases hs;obtain⟨k1,k2⟩:=g7 pc JO;exact g10 pc i k1 k2 hi ho
 refine⟨hR,by rw[KH],fun r hr=>?_⟩;obtain⟨s,e,g1,g2,g3,g4,g5,g6,g7,g8,g9,g10⟩:=CX r hr
 have Qp:o5 (pgV C B) (r:Nat)=pb 0 (a_ C (s:Nat)):=by
  unfold o5;have hi:pG ((r:Nat):Int) (pgV C B).ah.length=true:=da.2 ⟨by omega,by show((r:Nat):Int)<(B.length:Nat);omega⟩;rw[dc hR,hi]
  have IW:(pgV C B).ah.getD ((r:Nat):Int).toNat 0=(s:Int):=by
   rw[Int.toNat_natCast,List.getD_eq_getElem?_getD];show(B[r]?).getD 0=_;rw[g1];rfl
  rw[IW];rfl
 have GC:=Al (sa (a_ C (s:Nat)) 0) (a:=(s:Int)) (b:=((e-1:Nat):Int)) (ij.2 ⟨s,g8,by rw[Nat.zero_add]⟩) (ij.2 ⟨e-1,g9,by rw[Nat.zero_add]⟩) (fun v hv=>by
  obtain⟨k,k1,k2⟩:=ij.1 hv;have:=g7 k k1
  omega)
 exact⟨s,e,g1,g2,g3,fun b' db=>g4 b' db,fun hr1=>g5 (by rw[←KH];exact hr1),g6,by rw[Qp];exact GC.1,by rw[Qp];exact GC.2⟩
def kG (fr:Go.V.Fr) (k:Nat):Go.V.D:=Go.V.nth .junk fr.loc k
theorem sR:∀(ls:List (List Nod)) (r:Nat) (c:List aA) (s:List Int),(dH ls r c s).e≠0→(dH ls r c s).code=[]∧(dH ls r c s).ah=[]
 |[],r,c,s,h=>by rw[mX] at h;exact absurd rfl h
 |l::ls,r,c,s,h=>by
  rw[dH] at h⊢
  split
  ·exact⟨rfl,rfl⟩
  ·rename_i h1;rw[if_neg h1] at h
   split
   ·exact⟨rfl,rfl⟩
   ·rename_i h2;rw[if_neg h2] at h;exact sR ls _ _ _ h
theorem nS {ls:List (List Nod)} (h:(compileS ls).e≠0):(compileS ls).code=[]∧(compileS ls).ah=[]:=by
 unfold compileS at h⊢
 split
 ·exact⟨rfl,rfl⟩
 ·rename_i h1;rw[if_neg h1] at h;exact sR _ _ _ _ h
theorem xb:aO (pgV [] []):=⟨by simp[pgV],by simp[pgV],fun pc i h=>by simp[pgV] at h,fun v h=>by simp[pgV] at h,fun r s h=>by simp[pgV] at h⟩
theorem rH {ls:List (List Nod)} (hl:ls.length≤8) (hcl:(compileS ls).code.length≤400):aO (pgV (compileS ls).code (compileS ls).ah):=by
 by_cases he:(compileS ls).e=0
 ·exact(xE hl he hcl).1
 ·rw[(nS he).1,(nS he).2];exact xb
theorem xF {s0:St} {x:D} {ps:List (List UInt8)} (hx:V.Rows s0 1 x (ps.map strC)) (hl:ps.length≤1048576) (hb:∀b∈ps,b.length≤1048576):∃d,Ev pv 29 [x] s0 d s0∧∃(ls:List (List Nod)) (R:rm),compileS ls=R∧ls.length≤8∧R.code.length≤400∧d=.tup [(pgV R.code R.ah).d,.bool (R.e==0)]∧(pgV R.code R.ah).ok:=by
 refine Ev.CD rfl Pt rfl rfl rfl ?_;refine zE ?_;obtain⟨hSb,hF,hH⟩:=ri s0;generalize enterSt .ro s0=S at*;have hx:=Arg.of hx hSb;refine zQ 2 ?_;refine qa hH fun k2 st hk2 hH=>?_;refine zQ 11 ?_;have hH:Has s0.bs.length S st (.lst .nul 1 (([]:List (List Nod)).map partC)::.box k2 (.mem 0 false [.nul,.nul])::[]):=hH.nulE 1;refine zQ 1 ?_;refine EvC.loop (fun mm fr st=>∃(i:Nat) (ld:D) (parts:List (List Nod)),fr.clean=⟨11,[x,kG fr 1,.ptr k2 0 0,.bool false,ld,.int .i64 (i:Nat),kG fr 6,kG fr 7,kG fr 8,kG fr 9,kG fr 10],[]⟩∧Has s0.bs.length S st [.lst ld 1 (parts.map partC),.box k2 (.mem 0 false [.nul,.nul])]∧(i+mm=8)∧(∀l∈parts,(∀n∈l,NdV n)∧l.length≤500)∧(parts.length≤i)) (8) ?_ ?_
 ·exact⟨0,.nul,[],rfl,hH,by omega,fun l hl=>(by cases hl),by simp⟩
 rintro mm fr st ⟨i,ld,parts,hfr,hH,hi,hp,hpl⟩;rw[hfr];clear hfr;generalize kG fr=ee;clear fr;refine zQ 2 ?_;refine EvC.cutT 19 (.bool (decide (((i:Nat):Int)<((ps.length:Nat):Int)) &&decide (((i:Nat):Int)<8))) [] ?_ (fun ff tmp htmp=>?_)
 ·refine zQ 2 ?_;refine qn ?_;simp only[List.length_map];refine zQ 2 ?_;refine EvO.two 16 rfl (fun hg4=>?_) (fun hg4=>?_)
  ·refine zQ 3 ?_;refine EvO.nil (leafT ?_ ?_)
   ·dsimp only[setW,List.foldl,nth,u2,u1]
    all_goals(first|rfl|simp)
   ·refine zF ?_
    all_goals(simp_all;done)
  ·refine zQ 3 ?_;refine EvO.nil (leafT ?_ ?_)
   ·dsimp only[setW,List.foldl,nth,u2,u1]
    all_goals(first|rfl|simp)
   ·refine zF ?_
    all_goals(simp_all;omega)
 refine zG ?_
 by_cases hlt:i<ps.length∧i<8
 ·obtain⟨b,hbb⟩:∃b,ps[i]?=some b:=⟨ps[i]'hlt.1,List.getElem?_eq_getElem _⟩
  have hr1:=str_get hbb;have hbl:=hb b (List.mem_of_getElem? hbb);have pP:(decide (((i:Nat):Int)<((ps.length:Nat):Int)) &&decide (((i:Nat):Int)<8))=true:=by rw[Bool.and_eq_true,decide_eq_true_eq,decide_eq_true_eq];omega
  rw[pP] at htmp;refine zQ 4 ?_;obtain⟨_,hev,l,e,w,rfl,hv,hll⟩:=Ch (s0:=st) hbl;refine zQ 4 ?_;refine qr fun IE AX=>?_;refine qR ?_;refine qv (hev) ?_;refine zQ 13 ?_;refine zI (fun he=>?_) fun he=>?_
  ·refine zQ 3 ?_;refine qh (s:=1) (vs:=[_]) hH fun k35 st TB hH=>?_;refine EvO.happend (s:=1) hH rfl (ev rfl) (ev rfl) (by exact at1) (by exact hH.rows (by exact at0)) rfl rfl rfl rfl rfl rfl rfl ⟨(Nat.le_of_ble_eq_true rfl),(Nat.le_of_ble_eq_true rfl)⟩ (fun _=>(put_T rfl _)) (by simp only[List.length_cons,List.length_nil,List.length_map]<;>omega) (by exact .inl hF) (fun Q9 st hH=>?_);dsimp only[u2,u1,u3,u4,setMany,u5,u6,D.cells,Nat.reduceAdd,partC,compD,Pg.d,Pg.cs,pgV] at hH;refine zQ 2 ?_;have hH:=hH.drop 1;refine zQ 5 ?_;refine⟨mm-1,by omega,⟨i+1,Q9,parts++[l],rfl,(by rw[List.map_append];exact hH),by omega,?_,by rw[List.length_append];simp only[List.length_cons,List.length_nil];omega⟩⟩;intro l' hl'
   rcases List.mem_append.1 hl' with hl'|hl'
   ·exact hp l' hl'
   ·simp only[List.mem_cons,List.not_mem_nil,or_false] at hl';subst hl';exact⟨hv,hll⟩
  ·refine zQ 6 ?_;exact⟨mm-1,by omega,⟨i+1,ld,parts,rfl,hH,by omega,hp,by omega⟩⟩
 ·have pP:(decide (((i:Nat):Int)<((ps.length:Nat):Int)) &&decide (((i:Nat):Int)<8))=false:=by
   rw[Bool.and_eq_false_iff,decide_eq_false_iff_not,decide_eq_false_iff_not];omega
  rw[pP] at htmp;refine zQ 2 ?_;obtain⟨hev,hok,hlen⟩:=comp_parts hp (by omega) (hH.rows at0);generalize Ui:compileS parts=R at*;refine zQ 3 ?_;refine qv (hev) ?_;refine zQ 4 ?_;refine qa hH fun k9 st Tj hH=>?_;refine qS hH at0 fun st hH=>?_;dsimp only[u2,u1,u3,u4,setMany,u5,u6,D.cells,Nat.reduceAdd,partC,compD,Pg.d,Pg.cs,pgV] at hH;refine zQ 5 ?_;refine EvO.hloadS (m:=2) hH rfl (ev rfl) (by exact at0) (by dsimp only[List.drop_succ_cons,List.drop_zero,List.take_succ_cons,List.take_zero,partC,compD,Pg.d,Pg.cs,pgV]<;>rfl) rfl rfl (put_T rfl _) ?_;refine zQ 2 ?_;refine qS hH at2 fun st hH=>?_;dsimp only[u2,u1,u3,u4,setMany,u5,u6,D.cells,Nat.reduceAdd,partC,compD,Pg.d,Pg.cs,pgV] at hH;refine zQ 2 ?_;refine EvC.ret ⟨rx,_,_,hH.oZ rfl at2 rfl rfl,rl hSb hH (show _=some (D.tup [(pgV R.code R.ah).d,.bool (R.e==0)]) from rfl),⟨parts,R,Ui,by omega,hlen,rfl,hok⟩⟩
theorem AL {s0:St} {x:D} {ps:List (List UInt8)} (hx:V.Rows s0 1 x (ps.map strC)) (hl:ps.length≤1048576) (hb:∀b∈ps,b.length≤1048576):∃d,Ev pv 29 [x] s0 d s0∧∃(p:Pg) (ok:Bool),d=.tup [p.d,.bool ok]∧p.ok∧aO p:=by
 obtain⟨d,hev,ls,R,rfl,NK,hcl,rfl,hok⟩:=xF (s0:=s0) hx hl hb;exact⟨_,hev,_,_,rfl,hok,rH NK hcl⟩
end Go.Proofs.YtnleclohocdkaaaGreat
namespace Go.V
open Go.RowKit
def mQ {H:Type}:DataW H→Bool
 | .agg _=>true
 |_=>false
mutual
def ur {H:Type}:DataW H→List D
 | .lit (.bool b)=>[.bool b]
 | .lit (.int k n)=>[.int k n]
 | .lit (.string l)=>[.str l]
 | .lit _=>[.junk]
 | .nil=>[.nul]
 | .slice elems _=>[.sl (ub elems)]
 | .agg parts=>jJ parts
 | .ptr _=>[.junk]
 | .iface _ _=>[.junk]
 | .map _=>[.junk]
 | .held _=>[.junk]
def ub {H:Type}:List (DataW H)→List D
 |[]=>[]
 |d::r=>(if mQ d then .agg (ur d) else(ur d).headD .junk)::ub r
def jJ {H:Type}:List (DataW H)→List D
 |[]=>[]
 |d::r=>ur d++jJ r
end
def dval {H:Type} (d:DataW H):D:=if mQ d then .agg (ur d) else(ur d).headD .junk
theorem qz {H:Type}:∀l:List (DataW H),ub l=l.map dval
 |[]=>rfl
 |d::r=>by simp only[ub,List.map_cons,qz r];rfl
def qG (P:Program):Nat→List Field→Option Nat
 |o,[]=>some o
 |o,f::fs=>if f.offset=o then qG P (o+P.cellsOf f.type) fs else none
def EY (P:Program):Nat→TypeId→Bool
 |0,_=>false
 |n+1,t=>match P.underlying t with
  |some .bool=>true
  |some (.int _)=>true
  |some .string=>true
  |some (.slice e)=>EY P n e &&decide (0<P.cellsOf e)
  |some (.struct fs)=>(qG P 0 fs.toList==some (P.cellsOf t)) &&fs.toList.all fun f=>EY P n f.type
  |some (.array m e)=>EY P n e &&(P.cellsOf t==m*P.cellsOf e)
  |_=>false
structure CR (w:World) (Z:Nat→Prop) (cs:List D) (vs:List Value):Prop where
 len:cs.length=vs.length
 one:∀v∈vs,v.oneCell'=true
 onec:∀c∈cs,c.cells?=some [c]
 rel:∀(i:Nat) c v,cs[i]?=some c→vs[i]?=some v→IR w Z c v
theorem CR.nil {w:World} {Z:Nat→Prop}:CR w Z [] []:=⟨rfl,by simp,by simp,by simp⟩
theorem CR.single {w:World} {Z:Nat→Prop} {c:D} {v:Value} (h:IR w Z c v) (h1:v.oneCell'=true) (h2:c.cells?=some [c]):CR w Z [c] [v]:=
 ⟨rfl,by simpa using h1,by simpa using h2,fun i c' v' hc hv=>by
  cases i with
  |zero=>simp at hc hv;subst hc;subst hv;exact h
  |succ i=>simp at hc⟩
theorem CR.append {w:World} {Z:Nat→Prop} {cs cs':List D} {vs I8:List Value} (h:CR w Z cs vs) (g:CR w Z cs' I8):CR w Z (cs++cs') (vs++I8):=by
 refine⟨by simp[h.len,g.len],fun v hv=>?_,fun c hc=>?_,fun i c v hc hv=>?_⟩
 ·rcases List.mem_append.1 hv with hv|hv
  ·exact h.one v hv
  ·exact g.one v hv
 ·rcases List.mem_append.1 hc with hc|hc
  ·exact h.onec c hc
  ·exact g.onec c hc
 ·rw[List.getElem?_append] at hc hv;have:=h.len
  split at hc
  ·rw[if_pos (by omega)] at hv;exact h.rel i c v hc hv
  ·rw[if_neg (by omega)] at hv;rw[←this] at hv;exact g.rel _ c v hc hv
theorem u_ {H:Type} {P:Program} {w:World} {Z:Nat→Prop} {f:Field→Option (DataW H×List MemPlace)} {cs:List Value}:∀{fs:List Field} {o e:Nat} {xs:List (DataW H×List MemPlace)},qG P o fs=some e→e≤cs.length→fs.mapM f=some xs→
  (∀g∈fs,∀x,f g=some x→CR w Z (ur x.1) ((cs.drop g.offset).take (P.cellsOf g.type)))→CR w Z (jJ (xs.map (·.1))) ((cs.drop o).take (e-o))∧o≤e
 |[],o,e,xs,hc,_,hm,_=>by
  simp[qG] at hc;subst hc;simp at hm;subst hm;simp[jJ];exact CR.nil
 |g::fs,o,e,xs,hc,he,hm,hx=>by
  simp only[qG] at hc
  split at hc
  ·rename_i ho;rw[List.mapM_cons] at hm
   cases h1:f g with
   |none=>rw[h1] at hm;simp at hm
   |some x=>
    rw[h1] at hm
    cases h2:fs.mapM f with
    |none=>rw[h2] at hm;simp at hm
    |some ys=>
     rw[h2] at hm;simp at hm;subst hm;obtain⟨ih,hle⟩:=u_ hc he h2 fun g' TX=>hx g' (List.mem_cons_of_mem _ TX);have hg:=hx g (List.mem_cons_self ..) x h1;rw[ho] at hg;refine⟨?_,by omega⟩;simp only[List.map_cons,jJ]
     have:(cs.drop o).take (e-o)=(cs.drop o).take (P.cellsOf g.type)++(cs.drop (o+P.cellsOf g.type)).take (e-(o+P.cellsOf g.type)):=by
      rw[←List.drop_drop,show e-o=P.cellsOf g.type+(e-(o+P.cellsOf g.type)) by omega,List.take_add]
     rw[this];exact hg.append ih
  ·cases hc
theorem wc {H:Type} {w:World} {Z:Nat→Prop} {s:Nat} {f:Nat→Option (DataW H×List MemPlace)} {cs:List Value}:∀{m k:Nat} {xs:List (DataW H×List MemPlace)},(List.range' k m).mapM f=some xs→(k+m)*s≤cs.length→
  (∀i x,f i=some x→CR w Z (ur x.1) ((cs.drop (i*s)).take s))→CR w Z (jJ (xs.map (·.1))) ((cs.drop (k*s)).take (m*s))
 |0,k,xs,hm,_,_=>by simp at hm;subst hm;simp[jJ];exact CR.nil
 |m+1,k,xs,hm,hl,hx=>by
  rw[List.range'_succ,List.mapM_cons] at hm
  cases h1:f k with
  |none=>rw[h1] at hm;simp at hm
  |some x=>
   rw[h1] at hm
   cases h2:(List.range' (k+1) m).mapM f with
   |none=>rw[h2] at hm;simp at hm
   |some ys=>
    rw[h2] at hm;simp at hm;subst hm;have ih:=wc h2 (by rw[show k+1+m=k+(m+1) by omega];exact hl) hx;simp only[List.map_cons,jJ];rw[show(m+1)*s=s+m*s by rw[Nat.add_mul];omega,List.take_add,List.drop_drop,show k*s+s=(k+1)*s by rw[Nat.add_mul];omega];exact(hx k x h1).append ih
theorem cells_one {c:D} (h:c.cells?=some [c]):c.cells=[c]:=by
 cases c<;>first|rfl|cases h|(simp only[D.cells?,Option.some.injEq] at h;simpa only[D.cells] using h)
theorem wE (b off n:Nat):(⟨b,off,none⟩:Addr).add n=⟨b,off+n,none⟩:=by
 cases n<;>simp[Addr.add]
theorem oi {H:Type} {enc:TypeId×Value→H} {P:Program} {w:World} {spare:Nat→Bool} {held:Bool}:∀(fuel:Nat) (t:TypeId) (cs:List Value) (d:DataW H) (ps:List MemPlace) (n:Nat),DataW.trod enc P w 0 spare held fuel t cs=some (d,ps)→EY P n t=true→
  CR w (fun b=>b<w.heap.size) (ur d) cs∧cs.length=(match P.underlying t with|some (.struct _)|some (.array _ _)=>P.cellsOf t|_=>1)∧(mQ d=(match P.underlying t with|some (.struct _)|some (.array _ _)=>true|_=>false))
 |0,t,cs,d,ps,n,h,_=>by simp[DataW.trod] at h
 |fuel+1,t,cs,d,ps,0,h,ht=>by simp[EY] at ht
 |fuel+1,t,cs,d,ps,n+1,h,ht=>by
  simp only[EY] at ht;unfold DataW.trod at h
  cases hu:P.underlying t with
  |none=>rw[hu] at ht;simp at ht
  |some u=>
   rw[hu] at h ht
   cases u with
   |bool=>
    rcases cs with _|⟨v,_|⟨v2,cs⟩⟩<;>try(simp at h;done)
    cases v<;>simp at h
    obtain⟨rfl,rfl⟩:=h;exact⟨CR.single (.bool _) rfl rfl,rfl,rfl⟩
   |int k=>
    rcases cs with _|⟨v,_|⟨v2,cs⟩⟩<;>try(simp at h;done)
    cases v<;>simp at h
    obtain⟨⟨rfl,_⟩,rfl,rfl⟩:=h;exact⟨CR.single (.int _ _) rfl rfl,rfl,rfl⟩
   |string=>
    rcases cs with _|⟨v,_|⟨v2,cs⟩⟩<;>try(simp at h;done)
    cases v<;>simp at h
    rename_i b;obtain⟨_,rfl,rfl⟩:=h;refine⟨CR.single ?_ rfl rfl,rfl,rfl⟩;have:=IR.str (w:=w) (Z:=fun b=>b<w.heap.size) b.data.toList
    simpa using this
   |slice e=>
    simp only[Bool.and_eq_true,decide_eq_true_eq] at ht
    rcases cs with _|⟨v,_|⟨v2,cs⟩⟩<;>try(simp at h;done)
    cases v<;>try(simp at h;done)
    rename_i a len cap
    cases a with
    |none=>
     cases len<;>cases cap<;>simp at h
     obtain⟨rfl,rfl⟩:=h;exact⟨CR.single .nul rfl rfl,rfl,rfl⟩
    |some a=>
     simp only at h
     split at h
     ·rename_i hc;simp only[Option.bind_eq_some_iff,Option.map_eq_some_iff] at h;obtain⟨elems,he,rest,hr,hd⟩:=h;cases hd;refine⟨?_,rfl,rfl⟩;have hlen:elems.length=len:=by simpa using mapM_some_length he
      have hget:=mapM_some_get he
      have each:∀(i:Nat),i<len→∃x cs,elems[i]?=some x∧w.cells? 0 (a.add (i*P.cellsOf e)) (P.cellsOf e)=some cs∧CR w (fun b=>b<w.heap.size) (ur x.1) cs∧cs.length=P.cellsOf e∧(mQ x.1=(match P.underlying e with|some (.struct _)|some (.array _ _)=>true|_=>false))∧cs.length=(match P.underlying e with|some (.struct _)|some (.array _ _)=>P.cellsOf e|_=>1):=by
       intro i hi;have h1:=hget i i (by simp[hi]);have h2:elems[i]?=some (elems[i]'(by omega)):=List.getElem?_eq_getElem _;rw[h2] at h1;obtain⟨cs,gM,hx⟩:=Option.bind_eq_some_iff.1 h1;obtain⟨q1,q2,q3⟩:=oi fuel e cs _ _ n hx ht.1;exact⟨_,cs,h2,gM,q1,(World.cells?_some gM).2.1,q3,q2⟩
      refine CR.single ?_ rfl rfl
      cases len with
      |zero=>
       have:elems=[]:=by cases elems with|nil=>rfl|cons _ _=>simp at hlen
       subst this;exact .emp _ _
      |succ m=>
       have Qo:a.spot=none∧a.block<w.heap.size:=by
        obtain⟨x,cs,_,h2,_,_⟩:=each 0 (by omega);refine⟨?_,?_⟩
        ·have:=(World.cells?_some h2).2.2 0 ht.2;have hl:=(World.cells?_some h2).2.1
         obtain⟨c0,Ol⟩:∃c0,cs[0]?=some c0:=⟨cs[0]'(by omega),List.getElem?_eq_getElem _⟩
         rw[Ol] at this
         simpa[Addr.add] using World.cell?_spot this
        ·simpa[Addr.add] using World.cells?_block h2 ht.2
       obtain⟨b,off,spot⟩:=a;simp only at Qo;obtain⟨rfl,hb⟩:=Qo
       have hcell:∀(i j:Nat),i<m+1→j<P.cellsOf e→∃x cs v,elems[i]?=some x∧cs[j]?=some v∧w.cell? ⟨b,off+(i*P.cellsOf e+j),none⟩=some v∧CR w (fun b=>b<w.heap.size) (ur x.1) cs:=by
        intro i j hi hj;obtain⟨x,cs,h1,h2,h3,h4,_⟩:=each i hi;have:=(World.cells?_some h2).2.2 j hj
        obtain⟨v,hv⟩:∃v,cs[j]?=some v:=⟨cs[j]'(by omega),List.getElem?_eq_getElem _⟩
        rw[hv] at this;refine⟨x,cs,v,h1,hv,?_,h3⟩;rw[←this,wE,wE,Nat.add_assoc]
       have kW:(ub (elems.map (·.1)))=elems.map fun x=>dval x.1:=by rw[qz,List.map_map];rfl
       have hE:∀(i:Nat) q,(ub (elems.map (·.1)))[i]?=some q→∃x cs,i<m+1∧elems[i]?=some x∧q.cells?=some q.cells∧q.cells=ur x.1∧CR w (fun b=>b<w.heap.size) (ur x.1) cs∧cs.length=P.cellsOf e:=by
        intro i q hq;rw[kW,List.getElem?_map] at hq;obtain⟨x,hx,rfl⟩:=Option.map_eq_some_iff.1 hq
        have hi:i<m+1:=by
         rcases Nat.lt_or_ge i (m+1) with h'|h'
         ·exact h'
         ·rw[List.getElem?_eq_none (by omega)] at hx;cases hx
        obtain⟨x',cs,h1,h2,h3,h4,h5,h6⟩:=each i hi;rw[hx] at h1;cases h1;refine⟨x,cs,hi,hx,?_,?_,h3,h4⟩
        ·unfold dval
         split
         ·rfl
         ·rename_i HC
          have tS:(ur x.1).length=1:=by
           rw[h3.len,h6];rw[h5] at HC
           revert HC
           split<;>simp
          match hd:ur x.1,tS with
          |[c],_=>have:=h3.onec c (by rw[hd];simp);simp only[List.headD_cons];rw[cells_one this];exact this
        ·unfold dval
         split
         ·rfl
         ·rename_i HC
          have tS:(ur x.1).length=1:=by
           rw[h3.len,h6];rw[h5] at HC
           revert HC
           split<;>simp
          match hd:ur x.1,tS with
          |[c],_=>have:=h3.onec c (by rw[hd];simp);simp only[List.headD_cons];exact cells_one this
       have hL:(ub (elems.map (·.1))).length=m+1:=by rw[kW];simp[hlen]
       have hf:=fun(i j:Nat) (hi:i<m+1) (hj:j<P.cellsOf e)=>hcell i j hi hj;have:=IR.sl (w:=w) (Z:=fun b=>b<w.heap.size) (ub (elems.map (·.1))) b off cap (P.cellsOf e) (fun i j=>(w.cell? ⟨b,off+(i*P.cellsOf e+j),none⟩).getD undef) hb (by rw[hL];exact hc.2.1)
        (fun i q hq=>by
         obtain⟨x,cs,h1,h2,h3,h4,h5,h6⟩:=hE i q hq
         exact⟨h3,by rw[h4,h5.len,h6]⟩)
        (fun i q j c hq hj=>by
         obtain⟨x,cs,h1,h2,h3,h4,h5,h6⟩:=hE i q hq
         have iS:j<P.cellsOf e:=by
          rcases Nat.lt_or_ge j (P.cellsOf e) with h'|h'
          ·exact h'
          ·rw[h4,List.getElem?_eq_none (by rw[h5.len,h6];exact h')] at hj;cases hj
         obtain⟨x',cs',v,g1,g2,g3,g4⟩:=hf i j h1 iS;rw[g3]
         exact⟨rfl,g4.one v (List.mem_of_getElem? g2)⟩)
        (fun i q j c hq hj=>by
         obtain⟨x,cs,h1,h2,h3,h4,h5,h6⟩:=hE i q hq
         have iS:j<P.cellsOf e:=by
          rcases Nat.lt_or_ge j (P.cellsOf e) with h'|h'
          ·exact h'
          ·rw[h4,List.getElem?_eq_none (by rw[h5.len,h6];exact h')] at hj;cases hj
         obtain⟨x',cs',v,g1,g2,g3,g4⟩:=hf i j h1 iS;rw[g3];rw[h2] at g1;cases g1
         exact g4.rel j c v (by rw[←h4];exact hj) g2)
       rw[hL] at this;exact this
     ·cases h
   |struct fs=>
    simp only[Bool.and_eq_true,beq_iff_eq,List.all_eq_true] at ht;simp only at h
    split at h
    ·rename_i hl;obtain⟨xs,hx,hd⟩:=Option.map_eq_some_iff.1 h;cases hd;refine⟨?_,hl,rfl⟩;obtain⟨h1,_⟩:=u_ (w:=w) (Z:=fun b=>b<w.heap.size) (cs:=cs) ht.1 (by omega) hx fun g hg x TU=>(oi fuel g.type _ _ _ n TU (ht.2 g hg)).1;rw[List.drop_zero,Nat.sub_zero,←hl,List.take_length] at h1;exact h1
    ·cases h
   |array m e=>
    simp only[Bool.and_eq_true,beq_iff_eq] at ht;simp only at h
    split at h
    ·rename_i hl;obtain⟨xs,hx,hd⟩:=Option.map_eq_some_iff.1 h;cases hd;refine⟨?_,hl,rfl⟩;rw[List.range_eq_range'] at hx;have h1:=wc (w:=w) (Z:=fun b=>b<w.heap.size) (s:=P.cellsOf e) (cs:=cs) hx (by rw[Nat.zero_add,←ht.2,hl];exact Nat.le_refl _) fun i x TQ=>(oi fuel e _ _ _ n TQ ht.1).1;rw[Nat.zero_mul,List.drop_zero,←ht.2,←hl,List.take_length] at h1;exact h1
    ·cases h
   |_=>simp at ht
theorem trod_ir {H:Type} {enc:TypeId×Value→H} {P:Program} {w:World} {spare:Nat→Bool} {held:Bool} {r:Reach} {base:Nat} {t:TypeId} {v:Value} {d:DataW H} {ps:List MemPlace} {n:Nat} (h:DataW.Trod enc P w 0 spare held t v d ps) (ht:EY P n t=true) (hv:Value.okWide P w r base t v):
  IR w (fun b=>b<w.heap.size) (dval d) v:=by
 obtain⟨fuel,hf⟩:=h;obtain⟨h1,h2,h3⟩:=oi fuel t _ d ps n hf ht
 have hu:∃u,P.underlying t=some u:=by
  cases n with
  |zero=>simp[EY] at ht
  |succ n=>
   simp only[EY] at ht
   cases hu:P.underlying t with
   |none=>rw[hu] at ht;simp at ht
   |some u=>exact⟨u,rfl⟩
 obtain⟨u,hu⟩:=hu;unfold Value.okWide at hv;rw[hu] at hv h2 h3
 have Kx:(∃cs:Array Value,v=.agg cs)→mQ d=true→IR w (fun b=>b<w.heap.size) (dval d) v:=by
  rintro⟨cs,rfl⟩ hd;unfold dval;rw[if_pos hd];have:=IR.agg (w:=w) (Z:=fun b=>b<w.heap.size) (ur d) cs.toList (by simpa[Value.cells] using h1.len) (by simpa[Value.cells] using h1.one) (by simpa[Value.cells] using h1.rel)
  simpa using this
 have iP:mQ d=false→v.cells.toList.length=1→(∀cs,v≠.agg cs)→IR w (fun b=>b<w.heap.size) (dval d) v:=by
  intro hd hl HC;unfold dval;rw[if_neg (by rw[hd];simp)]
  have hc:v.cells.toList=[v]:=by cases v<;>first|rfl|exact absurd rfl (HC _)
  rw[hc] at h1
  match hq:ur d,h1.len with
  |[c],_=>exact h1.rel 0 c v (by rw[hq];rfl) rfl
 have hcell:Cell.okWide P w r base t v→∀cs,v≠.agg cs:=by
  rintro hc cs rfl;unfold Cell.okWide at hc;rw[hu] at hc;cases u<;>simp[Cell.ok,hu] at hc
 cases u with
 |struct fs=>obtain⟨cs,h,_⟩:=hv;exact Kx ⟨cs,h⟩ h3
 |array m e=>obtain⟨cs,h,_⟩:=hv;exact Kx ⟨cs,h⟩ h3
 |_=>exact iP h3 h2 (hcell hv)
end Go.V
namespace Go.V
open Go.RowKit
theorem wf_u8 {n:Int} (h:(Lit.int .u8 n).wf=true):∃y:UInt8,n=(y.toNat:Nat):=by
 have:0≤n∧n≤255:=by simpa[Lit.wf,IntKind.min,IntKind.max,IntKind.signed,IntKind.bits] using h
 refine⟨UInt8.ofNat n.toNat,?_⟩;rw[show(UInt8.ofNat n.toNat).toNat=n.toNat %256 from rfl];omega
theorem law_calls {pv:Pv} {P:Program} (h:pv.Ok P∧pv.gS∧gf P pv (dt pv)) {f:Nat} {ds:List D} {ab:St} (hs:Ev pv f ds ⟨[],0,0⟩ (.bool true) ab) {w:World} {us:List Value} (hl:ds.length=us.length)
  (hr:∀(i:Nat) c v,ds[i]?=some c→us[i]?=some v→IR w (fun b=>b<w.heap.size) c v):Calls P f us.toArray w fun e w'=>e=.returned (.bool true)∧Below w.heap.size w w':=by
 obtain⟨N,hN⟩:=Ev.out hs;refine(sound h (hN N (Nat.le_refl _)) (w:=w) (Z:=fun b=>b<w.heap.size) (fun _ h=>h) hl hr).mono fun e w'=>?_;rintro⟨v,β',Z',rfl,he,hv⟩;rw[c8 hv];exact⟨rfl,⟨he.os,he.tape,he.output,he.size,fun k hk=>he.block k hk fun f=>f⟩⟩
end Go.V
namespace Go.V
open Go.RowKit
def Rd {H:Type} (enc:TypeId×Value→H) (P:Program) (w:World) (spare:Nat→Bool) (held:Bool) (t:TypeId) (d:DataW H):Prop:=
 ∃fuel cs ps,DataW.trod enc P w 0 spare held fuel t cs=some (d,ps)
section
variable{H:Type} {enc:TypeId×Value→H} {P:Program} {w:World} {spare:Nat→Bool} {held:Bool} {t e:TypeId} {d:DataW H}
theorem Rd.of {v:Value} {ps:List MemPlace} (h:DataW.Trod enc P w 0 spare held t v d ps):Rd enc P w spare held t d:=by
 obtain⟨fuel,h⟩:=h;exact⟨fuel,_,_,h⟩
theorem Rd.int {k:IntKind} (h:Rd enc P w spare held t d) (ht:P.underlying t=some (.int k)):∃n:Int,d=.lit (.int k n)∧(Lit.int k n).wf=true:=by
 obtain⟨fuel,cs,ps,h⟩:=h
 cases fuel with
 |zero=>simp[DataW.trod] at h
 |succ fuel=>
  unfold DataW.trod at h;rw[ht] at h
  rcases cs with _|⟨v,_|⟨v2,cs⟩⟩<;>try(simp at h;done)
  cases v<;>simp at h
  obtain⟨⟨rfl,hw⟩,rfl,_⟩:=h;exact⟨_,rfl,hw⟩
theorem Rd.bool (h:Rd enc P w spare held t d) (ht:P.underlying t=some .bool):∃b:Bool,d=.lit (.bool b):=by
 obtain⟨fuel,cs,ps,h⟩:=h
 cases fuel with
 |zero=>simp[DataW.trod] at h
 |succ fuel=>
  unfold DataW.trod at h;rw[ht] at h
  rcases cs with _|⟨v,_|⟨v2,cs⟩⟩<;>try(simp at h;done)
  cases v<;>simp at h
  obtain⟨rfl,_⟩:=h;exact⟨_,rfl⟩
theorem Rd.string (h:Rd enc P w spare held t d) (ht:P.underlying t=some .string):∃l:List UInt8,d=.lit (.string l):=by
 obtain⟨fuel,cs,ps,h⟩:=h
 cases fuel with
 |zero=>simp[DataW.trod] at h
 |succ fuel=>
  unfold DataW.trod at h;rw[ht] at h
  rcases cs with _|⟨v,_|⟨v2,cs⟩⟩<;>try(simp at h;done)
  cases v<;>simp at h
  obtain⟨_,rfl,_⟩:=h;exact⟨_,rfl⟩
theorem Rd.slice (h:Rd enc P w spare held t d) (ht:P.underlying t=some (.slice e)):d=.nil∨∃elems rest,d=.slice elems rest∧∀x∈elems,Rd enc P w spare held e x:=by
 obtain⟨fuel,cs,ps,h⟩:=h
 cases fuel with
 |zero=>simp[DataW.trod] at h
 |succ fuel=>
  unfold DataW.trod at h;rw[ht] at h
  rcases cs with _|⟨v,_|⟨v2,cs⟩⟩<;>try(simp at h;done)
  cases v<;>try(simp at h;done)
  rename_i a len cap
  cases a with
  |none=>
   cases len<;>cases cap<;>simp at h
   obtain⟨rfl,rfl⟩:=h;exact .inl rfl
  |some a=>
   simp only at h
   split at h
   ·simp only[Option.bind_eq_some_iff,Option.map_eq_some_iff] at h;obtain⟨elems,hm,rest,hr,hd⟩:=h;cases hd;refine .inr ⟨_,_,rfl,fun x hx=>?_⟩;obtain⟨y,hy,rfl⟩:=List.mem_map.1 hx;have hlen:elems.length=len:=by simpa using mapM_some_length hm
    have hget:=mapM_some_get hm;obtain⟨i,hi⟩:=List.getElem?_of_mem hy;have hil:i<len:=by have:=lt_get hi;omega
    have h1:=hget i i (by simp[hil]);rw[hi] at h1;obtain⟨cs,_,hx⟩:=Option.bind_eq_some_iff.1 h1;exact⟨fuel,cs,y.2,hx⟩
   ·cases h
theorem mH {α β:Type} {f:α→Option β}:∀{l:List α} {m:List β},l.mapM f=some m→bQ (fun a b=>f a=some b) l m
 |[],m,h=>by simp at h;subst h;exact .nil
 |a::l,m,h=>by
  rw[List.mapM_cons] at h
  cases h1:f a with
  |none=>rw[h1] at h;simp at h
  |some b=>
   rw[h1] at h
   cases h2:l.mapM f with
   |none=>rw[h2] at h;simp at h
   |some ys=>rw[h2] at h;simp at h;subst h;exact .cons h1 (mH h2)
theorem bQ.Jr {α β γ:Type} {R:α→γ→Prop} {f:β→γ}:∀{l:List α} {m:List β},bQ (fun a b=>R a (f b)) l m→bQ R l (m.map f)
 |_,_,.nil=>.nil
 |_,_,.cons a t=>.cons a t.Jr
theorem Rd.struct {fs:Array Field} (h:Rd enc P w spare held t d) (ht:P.underlying t=some (.struct fs)):∃parts,d=.agg parts∧bQ (fun(f:Field) x=>Rd enc P w spare held f.type x) fs.toList parts:=by
 obtain⟨fuel,cs,ps,h⟩:=h
 cases fuel with
 |zero=>simp[DataW.trod] at h
 |succ fuel=>
  unfold DataW.trod at h;rw[ht] at h;simp only at h
  split at h
  ·obtain⟨xs,hx,hd⟩:=Option.map_eq_some_iff.1 h;cases hd;refine⟨_,rfl,?_⟩;exact((mH hx).mono fun f x TY=>(⟨fuel,_,_,TY⟩:Rd enc P w spare held f.type x.1)).Jr
  ·cases h
theorem Rd.array {n:Nat} (h:Rd enc P w spare held t d) (ht:P.underlying t=some (.array n e)):∃parts,d=.agg parts∧parts.length=n∧∀x∈parts,Rd enc P w spare held e x:=by
 obtain⟨fuel,cs,ps,h⟩:=h
 cases fuel with
 |zero=>simp[DataW.trod] at h
 |succ fuel=>
  unfold DataW.trod at h;rw[ht] at h;simp only at h
  split at h
  ·obtain⟨xs,hx,hd⟩:=Option.map_eq_some_iff.1 h;cases hd;have h1:=mH hx;refine⟨_,rfl,by have:=h1.len;simp at this;simp[←this],fun x ME=>?_⟩;obtain⟨y,hy,rfl⟩:=List.mem_map.1 ME
   have key:∀{l:List Nat} {m:List (DataW H×List MemPlace)},bQ (fun i x=>DataW.trod enc P w 0 spare held fuel e ((cs.drop (i*P.cellsOf e)).take (P.cellsOf e))=some x) l m→∀y∈m,Rd enc P w spare held e y.1:=by
    intro l m h
    induction h with
    |nil=>intro y hy;cases hy
    |cons a t ih=>
     intro y hy
     rcases List.mem_cons.1 hy with rfl|hy
     ·exact⟨fuel,_,_,a⟩
     ·exact ih y hy
   exact key h1 y hy
  ·cases h
end
theorem BW {H α:Type} {s:Nat} {f:α→List D} {Q:α→DataW H→Prop} {elems rest:List (DataW H)} (h:∀x∈elems,∃a,(dval x).cells?=some (dval x).cells∧(dval x).cells=f a∧(f a).length=s∧Q a x):
  ∃ws:List α,SlD (dval (.slice elems rest)) s (ws.map f)∧ws.length=elems.length∧∀a∈ws,∃x∈elems,Q a x:=by
 have key:∃ws:List α,(elems.map dval).map D.cells=ws.map f∧(∀d∈elems.map dval,d.cells?=some d.cells∧d.cells.length=s)∧ws.length=elems.length∧∀a∈ws,∃x∈elems,Q a x:=by
  induction elems with
  |nil=>exact⟨[],rfl,fun d hd=>(by cases hd),rfl,fun a ha=>by cases ha⟩
  |cons x l ih=>
   obtain⟨ws,h1,h2,h3,h4⟩:=ih fun y hy=>h y (List.mem_cons_of_mem _ hy);obtain⟨a,g1,g2,g3,g4⟩:=h x (List.mem_cons_self ..);refine⟨a::ws,by simp only[List.map_cons,h1,g2],fun d hd=>?_,by simp[h3],fun b hb=>?_⟩
   ·simp only[List.map_cons,List.mem_cons] at hd
    rcases hd with rfl|hd
    ·exact⟨g1,by rw[g2];exact g3⟩
    ·exact h2 d hd
   ·rcases List.mem_cons.1 hb with rfl|hb
    ·exact⟨x,List.mem_cons_self ..,g4⟩
    ·obtain⟨y,hy,hq⟩:=h4 b hb;exact⟨y,List.mem_cons_of_mem _ hy,hq⟩
 obtain⟨ws,h1,h2,h3,h4⟩:=key;refine⟨ws,.inr ⟨elems.map dval,?_,h1,h2⟩,h3,h4⟩;show D.sl (ub elems)=_;rw[qz]
theorem GO {H α:Type} {s:Nat} {f:α→List D}:SlD (dval (.nil:DataW H)) s (([]:List α).map f):=.inl ⟨rfl,rfl⟩
end Go.V
namespace Go.Proofs.YtnleclohocdkaaaGreat
theorem DY {H:Type} (d:DataW H):1≤Rows.uptoBulk d:=by
 cases d with
 |lit l=>cases l<;>simp[Rows.uptoBulk]
 |_=>simp[Rows.uptoBulk]
theorem qN {H:Type} (l:List (DataW H)):l.length≤Rows.uptoBulkAll l:=by
 induction l with
 |nil=>simp[Rows.uptoBulkAll]
 |cons x r ih=>have:=DY x;simp only[Rows.uptoBulkAll,List.length_cons];omega
end Go.Proofs.YtnleclohocdkaaaGreat
namespace Go.Proofs.YtnleclohocdkaaaGreat
open Go.V Go Go.RowKit
variable{H:Type} {enc:TypeId×Value→H} {w:World} {spare:Nat→Bool} {held:Bool} {d:DataW H}
theorem DZ {H:Type} {l:List (DataW H)} {x:DataW H} (h:x∈l):Rows.uptoBulk x≤Rows.uptoBulkAll l:=by
 induction l with
 |nil=>cases h
 |cons y l ih=>
  simp only[Rows.uptoBulkAll]
  rcases List.mem_cons.1 h with rfl|h
  ·omega
  ·have:=ih h;omega
theorem D3 (h:Rd enc Tryz.prog w spare held 28 d):∃l:List Int,SlD (dval d) 1 (l.map ai)∧l.length≤Rows.uptoBulk d:=by
 rcases h.slice Tryz.underlying28 with rfl|⟨elems,rest,rfl,he⟩
 ·exact⟨[],GO,by simp⟩
 ·obtain⟨rs,h1,h2,_⟩:=BW (s:=1) (f:=ai) (Q:=fun _ _=>True) (rest:=rest) fun x hx=>by
   obtain⟨a,rfl,_⟩:=(he x hx).int Tryz.underlying3;exact⟨a,rfl,rfl,rfl,trivial⟩
  refine⟨rs,h1,?_⟩;have:=qN elems;simp only[Rows.uptoBulk];omega
end Go.Proofs.YtnleclohocdkaaaGreat
namespace Go.Proofs.YtnleclohocdkaaaGreat
open Go.V Go Go.RowKit
variable{H:Type} {enc:TypeId×Value→H} {w:World} {spare:Nat→Bool} {held:Bool} {d:DataW H}
theorem arg_strs (h:Rd enc Tryz.prog w spare held 22 d):∃(y:D) (ps:List (List UInt8)),dval d=y∧SlD y 1 (ps.map strC)∧(Rows.uptoBulk d≤1048576→ps.length≤1048576∧∀b∈ps,b.length≤1048576):=by
 rcases h.slice Tryz.underlying22 with rfl|⟨elems,rest,rfl,he⟩
 ·exact⟨_,[],rfl,.inl ⟨rfl,rfl⟩,fun _=>⟨by simp,fun b hb=>(by cases hb)⟩⟩
 ·obtain⟨l,h1,h2,h3⟩:=BW (s:=1) (f:=strC) (Q:=fun(b:List UInt8) x=>b.length≤Rows.uptoBulk x) (rest:=rest) fun x hx=>by
   obtain⟨b,rfl⟩:=(he x hx).string Tryz.underlying9;refine⟨b,rfl,rfl,rfl,?_⟩;simp only[Rows.uptoBulk];omega
  refine⟨_,l,rfl,h1,fun hb=>⟨?_,fun b db=>?_⟩⟩
  ·have:=qN elems;simp only[Rows.uptoBulk] at hb;omega
  ·obtain⟨x,hx,h4⟩:=h3 b db;have:=DZ hx;simp only[Rows.uptoBulk] at hb;omega
end Go.Proofs.YtnleclohocdkaaaGreat
namespace Go.Proofs.YtnleclohocdkaaaGreat
open Go.V Go Go.RowKit
theorem A4 {s0:St} {x:D} {b:List UInt8} (hx:SlD x 1 (V.byteCells b)) (n:Nat):∃d,Ev pv 28 [x,.int .i64 (n:Nat)] s0 d s0∧SlD d 1 (V.byteCells (b.take n)):=by
 have Kv:=aS b;refine Ev.CD rfl Pu rfl rfl rfl ?_;refine zE ?_;obtain⟨hSb,hF,hH⟩:=ri s0;generalize enterSt .ro s0=S at*;have MD:=hx.arg s0.bs.length S;refine zQ 8 ?_;refine qn ?_;refine zQ 3 ?_;rw[Kv];refine zP (fun h0=>?_) fun h0=>?_
 ·have Qr:n≤(V.byteCells b).length:=by omega
  refine zQ 4 ?_;refine EvO.xl rfl (ev rfl) (by assumption) rfl rfl (nc (by omega)) (fun _=>(put_T rfl _)) (fun QY MC=>?_);refine zQ 2 ?_;obtain⟨z,hz1,hz2⟩:=MC.freeze S s0.bs.length 15;refine EvC.ret ⟨rx,_,_,rfl,rl hSb hH (hz1),?_⟩;rw[List.drop_zero] at hz2;unfold V.byteCells at hz2⊢;rw[List.map_take];exact hz2
 ·refine zQ 6 ?_;obtain⟨z,hz1,hz2⟩:=hx.freeze S s0.bs.length 15;refine EvC.ret ⟨rx,_,_,rfl,rl hSb hH (hz1),?_⟩;rw[List.take_of_length_le (by omega)];exact hz2
variable{H:Type} {enc:TypeId×Value→H} {w:World} {spare:Nat→Bool} {held:Bool} {d:DataW H}
theorem Gb (h:Rd enc Tryz.prog w spare held 46 d):∃(y:D) (b:List UInt8),dval d=y∧SlD y 1 (V.byteCells b)∧(Rows.uptoBulk d≤1048576→b.length≤1048576):=by
 rcases h.slice Tryz.underlying46 with rfl|⟨elems,rest,rfl,he⟩
 ·exact⟨_,[],rfl,.inl ⟨rfl,rfl⟩,fun _=>by simp⟩
 ·obtain⟨l,h1,h2,_⟩:=BW (s:=1) (f:=fun c:UInt8=>[.int .u8 (c.toNat:Nat)]) (Q:=fun _ _=>True) (rest:=rest) fun x hx=>by
   obtain⟨n,rfl,hw⟩:=(he x hx).int Tryz.underlying5;obtain⟨c,rfl⟩:=wf_u8 hw;exact⟨c,rfl,rfl,rfl,trivial⟩
  refine⟨_,l,rfl,h1,fun hb=>?_⟩;have:=qN elems;simp only[Rows.uptoBulk] at hb;omega
end Go.Proofs.YtnleclohocdkaaaGreat
