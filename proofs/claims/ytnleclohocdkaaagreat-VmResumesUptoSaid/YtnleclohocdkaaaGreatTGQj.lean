/-
 A set of patterns as a program: prog.Compile. %deep
-/
import Derived.Test.YtnleclohocdkaaaGreatTGHr
import Derived.Test.YtnleclohocdkaaaGreatTGQd
import Derived.Test.YtnleclohocdkaaaGreatTGPe
import Derived.Test.YtnleclohocdkaaaGreatTGPb
import Derived.Test.YtnleclohocdkaaaGreatTGCa
set_option maxRecDepth 100000
set_option maxHeartbeats 4000000
set_option linter.unusedSimpArgs false
set_option linter.unusedVariables false
set_option linter.unusedSectionVars false
namespace Go.Proofs.YtnleclohocdkaaaGreat
open Go.V Go
def fI (fr:Go.V.Fr) (k:Nat):Go.V.D:=Go.V.nth .junk fr.loc k
def zU (x:Nl):List D:=[x.d]
theorem E0 {l:List Nl} {i:Nat} {q:Nl} (h:l[i]?=some q):(l.map zU)[i]?=some (zU q):=by rw[List.getElem?_map,h];rfl
def compD (R:pe):D:=.tup [(pgV R.code R.aq).d,.int .i64 R.e,.int .i64 R.w]
theorem xy {es M:List Int} (h:M.length=es.length):kX es 0 M=M:=by
 unfold kX;simp[h]
theorem lX (r:Nat) (c:List az) (s:List Int):dr [] r c s=⟨c,s,0,0⟩:=by simp only[dr]
theorem w6 {s0:St} {x:D} {rules:List Nl} (hx:V.Rows s0 1 x (rules.map zU)) (hr:∀r∈rules,r.ok) (hl:rules.length≤1048576):Ev pv 8 [x] s0 (compD (compileS (rules.map (·.l)))) s0:=by
 refine Ev.mk1 rfl RC rfl rfl rfl ?_;refine zE ?_;obtain⟨hSb,hF,hH⟩:=ri s0;generalize enterSt .ro s0=S at*;have hx:=Arg.of hx hSb;have hfz:∀(st:St) (e w:Int),aY st s0.bs.length false 16 (po [.agg [.nul,.nul],.int .i64 e,.int .i64 w])=some (compD ⟨[],[],e,w⟩):=fun st e w=>rfl;refine zQ 2 ?_;refine qa hH fun k2 st hk2 hH=>?_;refine zQ 7 ?_;refine qn ?_;simp only[List.length_map];refine zQ 2 ?_;unfold compileS
 by_cases h8:8<rules.length
 ·rw[if_pos (by rw[List.length_map];exact h8)];refine qD rfl (by simp;omega) ?_;refine zQ 2 ?_;refine EvO.go (d:=.agg [.nul,.nul]) (st1:=_) rfl rfl rfl (by dsimp only[Fr.put,u1,u2]<;>rfl) ?_;refine qS hH at0 fun st hH=>?_;dsimp only[u2,u1,u3,u4,setMany,u5,u6,D.cells,Nat.reduceAdd,aA,aO,aj,zU] at hH;refine zQ 3 ?_;refine EvC.ret ⟨rx,_,hH.jr rfl at0 rfl rfl rfl,rl hSb hH (hfz _ 13 8)⟩
 ·rw[if_neg (by rw[List.length_map];exact h8)];refine qE rfl (by simp;omega) ?_;refine zQ 3 ?_;refine EvO.go (d:=.agg [.nul,.nul,.nul,.nul]) (st1:=_) rfl rfl rfl (by dsimp only[Fr.put,u1,u2]<;>rfl) ?_;refine qb hH fun k14 st FL hH=>?_;refine zQ 10 ?_;refine qn ?_;simp only[List.length_map];refine zQ 2 ?_;have hH:Has s0.bs.length S st (.lst .nul 1 (([]:List Int).map aj)::.deep (fun _=>False) .nul 4 (([]:List az).map aA)::.box k14 (.mem 0 false [.nul,.nul,.nul,.nul])::[.box k2 (.mem 0 false [.nul,.nul])]):=(hH.G8 4).nulE 1;refine zQ 1 ?_;refine EvC.loop (fun mm fr st=>∃(r:Nat) (cd nd zd ed sd:D) (dk:Nat→Prop) (code:List az) (aq:List Int),fr.clean=⟨18,[fI fr 0,fI fr 1,.ptr k2 0 0,.int .i64 0,.int .i64 0,.ptr k14 0 0,sd,fI fr 7,fI fr 8,fI fr 9,fI fr 10,fI fr 11,fI fr 12,fI fr 13,fI fr 14,x,.int .i64 (rules.length:Nat),.int .i64 (r:Nat)],[]⟩∧Has s0.bs.length S st [.lst sd 1 (aq.map aj),.deep dk cd 4 (code.map aA),.box k14 (.mem 0 false [cd,nd,zd,ed]),.box k2 (.mem 0 false [.nul,.nul])]∧(r+mm=rules.length)∧(dr ((rules.drop r).map (·.l)) r code aq=dr (rules.map (·.l)) 0 [] [])∧(code.length≤400)∧(aq.length≤r)) (rules.length) ?_ ?_
  ·exact⟨0,.nul,.nul,.nul,.nul,.nul,(fun _=>False),[],[],rfl,hH,by omega,by rw[List.drop_zero],by simp,by simp⟩
  rintro mm fr st ⟨r,cd,nd,zd,ed,sd,dk,code,aq,hfr,hH,SD,hX,hcl,fv⟩;rw[hfr];clear hfr;generalize fI fr=ee;clear fr;refine zQ 4 ?_
  by_cases hlt:r<rules.length
  ·obtain⟨q,hq⟩:∃q,rules[r]?=some q:=⟨rules[r]'hlt,List.getElem?_eq_getElem _⟩
   have uE:=hr q (List.mem_of_getElem? hq);have hr1:=E0 hq
   have wG:rules.drop r=q::rules.drop (r+1):=by
    rw[List.drop_eq_getElem_cons hlt]
    congr 1
    exact Option.some.inj ((List.getElem?_eq_getElem _).symm.trans hq)
   rw[wG,List.map_cons,dr] at hX;refine qq<|qD rfl (by simp;omega) ?_;refine zQ 6 ?_;refine qr fun G6 Bv=>?_;refine zQ 8 ?_;refine qv (yS uE) ?_;refine zQ 2 ?_
   cases wz:eG q.l with
   |false=>
    rw[if_pos wz] at hX;refine zQ 3 ?_;refine EvO.go (d:=.agg [.nul,.nul]) (st1:=_) rfl rfl rfl (put_T rfl _) ?_;refine qm ?_;refine qS hH at3 fun st hH=>?_;dsimp only[u2,u1,u3,u4,setMany,u5,u6,D.cells,Nat.reduceAdd,aA,aO,aj,zU] at hH;refine zQ 3 ?_;rw[←hX];refine EvC.ret ⟨rx,_,hH.jr rfl at3 rfl rfl rfl,rl hSb hH (hfz _ 1 r)⟩
   |true=>
    rw[if_neg (by rw[wz];simp)] at hX;obtain⟨pw,Fc⟩:=rI wz;have SG:=uE.c.arg s0.bs.length S;have SF:=uE.nl;have tj:=uE.c;refine zQ 9 ?_;refine qn ?_;simp only[List.length_map];refine EvO.x5 (s:=1) hH rfl rfl rfl rfl rfl rfl rfl rfl (Nat.le_of_ble_eq_true rfl) (by omega) (fun _=>(put_T rfl _)) (fun k33 st Lq hH=>?_);refine qm ?_;refine qn ?_;simp only[List.length_map];refine EvO.x5 (s:=1) hH rfl rfl rfl rfl rfl rfl rfl rfl (Nat.le_of_ble_eq_true rfl) (by omega) (fun _=>(put_T rfl _)) (fun k36 st H9 hH=>?_);refine zQ 2 ?_;refine qT hH at4 fun st hH=>?_;dsimp only[u2,u1,u3,u4,setMany,u5,u6,D.cells,Nat.reduceAdd,aA,aO,aj,zU] at hH;refine zQ 2 ?_;refine qT hH at4 fun st hH=>?_;dsimp only[u2,u1,u3,u4,setMany,u5,u6,D.cells,Nat.reduceAdd,aA,aO,aj,zU] at hH;refine zQ 2 ?_;refine qT hH at4 fun st hH=>?_;dsimp only[u2,u1,u3,u4,setMany,u5,u6,D.cells,Nat.reduceAdd,aA,aO,aj,zU] at hH;refine zQ 1 ?_
    have hH:Has s0.bs.length S st (.lst (.win k33 0 0 q.l.length 1) 1 ((List.replicate q.l.length (0:Int)).map aj)::.lst (.win k36 0 0 q.l.length 1) 1 ((List.replicate q.l.length (0:Int)).map aj)::.lst sd 1 (aq.map aj)::.deep dk cd 4 (code.map aA)::.box k14 (.mem 0 false [cd,q.d,.win k33 0 0 q.l.length 1,.win k36 0 0 q.l.length 1])::.box k2 (.mem 0 false [.nul,.nul])::[]):=by
     rw[List.map_replicate];exact hH.front at1
    refine zQ 7 ?_;obtain⟨_,st,hev,rfl,hH⟩:=Ar uE.nl uE.i uE.c _ (bR q.l) (Nat.le_refl _) pw (at_:=0) (by rw[Fc];exact ec.all _) (by simp) hH;refine qv hev ?_;refine zQ 1 ?_;rw[xy (by rw[Tr.gp,Fc];simp)] at hH;have hH:=hH.front at1;refine zQ 7 ?_;obtain⟨_,st,hev,rfl,hH⟩:=D1 uE.nl uE.i uE.c _ (bR q.l) (Nat.le_refl _) pw (at_:=0) (by rw[Fc];exact ec.all _) (by simp) hH;refine qv hev ?_;refine zQ 1 ?_;rw[xy (by rw[Tr.gA,Fc];simp)] at hH;have PE:=dI (xl (ec.all (bR q.l).zs));refine zQ 7 ?_;refine EvO.zD hH rfl (ev rfl) (by exact at3) rfl (put_T rfl _) ?_;simp only[List.length_map];refine zQ 4 ?_;refine qi hH at1 fun OQ K0=>?_;refine zQ 1 ?_;refine EvO.gC (z:=((code.length+min (bR q.l).sz 401:Nat):Int)) rfl (ev rfl) (ev rfl) (by(try simp only[List.length_reverse,List.length_cons,List.length_nil,List.length_append,List.length_map,List.length_set]);rw[wrap_i64 (by omega) (by omega)]<;>omega) (put_T rfl _) ?_;refine EvO.gC (z:=((code.length+min (bR q.l).sz 401+3:Nat):Int)) rfl (ev rfl) (ev rfl) (by(try simp only[List.length_reverse,List.length_cons,List.length_nil,List.length_append,List.length_map,List.length_set]);rw[wrap_i64 (by omega) (by omega)]<;>omega) (put_T rfl _) ?_;refine zQ 2 ?_
    by_cases FU:400<code.length+min (bR q.l).sz 401+3
    ·rw[if_pos FU] at hX;have hcc:decide (((code.length+min (bR q.l).sz 401+3:Nat):Int)>400)=true:=by rw[decide_eq_true_eq];omega
     refine qD rfl (by rw[hcc]) ?_;refine zQ 2 ?_;refine EvO.go (d:=.agg [.nul,.nul]) (st1:=_) rfl rfl rfl (put_T rfl _) ?_;refine qm ?_;refine qS hH at5 fun st hH=>?_;dsimp only[u2,u1,u3,u4,setMany,u5,u6,D.cells,Nat.reduceAdd,aA,aO,aj,zU] at hH;refine zQ 3 ?_;rw[←hX];refine EvC.ret ⟨rx,_,hH.jr rfl at5 rfl rfl rfl,rl hSb hH (hfz _ 12 r)⟩
    ·rw[if_neg FU] at hX;have hcc:decide (((code.length+min (bR q.l).sz 401+3:Nat):Int)>400)=false:=by rw[decide_eq_false_iff_not];omega
     refine qE rfl (by rw[hcc]) ?_;refine zQ 1 ?_;have hH:=hH.front at1;have hH:=hH.front at3;have hH:=hH.front at4;have hH:Has s0.bs.length S st (.box k14 (.mem 0 false [cd,q.d,.win k33 0 0 q.l.length 1,.win k36 0 0 q.l.length 1])::.deep dk cd 4 (code.map aA)::.lst (.win k33 0 0 q.l.length 1) 1 ((bR q.l).zs.map aj)::.lst (.win k36 0 0 q.l.length 1) 1 (((bR q.l).es 0).map aj)::.lst sd 1 (aq.map aj)::.box k2 (.mem 0 false [.nul,.nul])::[]):=hH;refine zQ 4 ?_;refine EvO.go (d:=.agg [.int .i64 4,.int .i64 0,.int .i64 0,.nul]) (st1:=_) rfl rfl rfl (put_T rfl _) ?_;have hH:=hH.nulE 2;obtain⟨_,st,hev,rfl,cd,dk,hH⟩:=eQ (rs:=[]) hF (by omega) hH;refine qv hev ?_;refine qh (s:=1) (vs:=[_]) hH fun k75 st Qr hH=>?_;refine EvO.happend (s:=1) hH rfl (ev rfl) (ev rfl) (by exact at5) (by exact hH.rows (by exact at0)) rfl rfl rfl rfl rfl rfl rfl ⟨(Nat.le_of_ble_eq_true rfl),(Nat.le_of_ble_eq_true rfl)⟩ (fun _=>(put_T rfl _)) (by simp only[List.length_cons,List.length_nil,List.length_map]<;>omega) (by exact .inl hF) (fun Oo st hH=>?_);dsimp only[u2,u1,u3,u4,setMany,u5,u6,D.cells,Nat.reduceAdd,aA,aO,aj,zU] at hH;refine zQ 2 ?_;have hH:=hH.drop 1;have kD:(code++[cg 4 0 0 []]).length=code.length+1:=by simp
     refine zQ 3 ?_;obtain⟨_,st,hev,rfl,cd,dk,hH⟩:=Da uE.nl uE.i _ (bR q.l) (Nat.le_refl _) hF uE.c (at_:=0) (by rw[Fc];exact ec.all _) (ec.all _) (ec.all _) pw (by omega) ⟨cd,dk,hH⟩;refine qv hev ?_;refine zQ 1 ?_;rw[kD] at hH;have lV:(code++[cg 4 0 0 []]++aE (bR q.l) (code.length+1)).length=code.length+1+(bR q.l).sz:=by rw[List.length_append,kD,bK _ _ pw]
     refine zQ 3 ?_;refine EvO.go (d:=.agg [.int .i64 4,.int .i64 1,.int .i64 0,.nul]) (st1:=_) rfl rfl rfl (put_T rfl _) ?_;have hH:=hH.nulE 2;obtain⟨_,st,hev,rfl,cd,dk,hH⟩:=eQ (rs:=[]) hF (by omega) hH;refine qv hev ?_;refine zQ 1 ?_;have BJ:(code++[cg 4 0 0 []]++aE (bR q.l) (code.length+1)++[cg 4 1 0 []]).length=code.length+1+(bR q.l).sz+1:=by rw[List.length_append,lV];rfl
     refine zQ 3 ?_;refine EvO.go (d:=.agg [.int .i64 7,.int .i64 (r:Nat),.int .i64 0,.nul]) (st1:=_) rfl rfl rfl (put_T rfl _) ?_;have hH:=hH.nulE 2;obtain⟨_,st,hev,rfl,cd,dk,hH⟩:=eQ (rs:=[]) hF (by omega) hH;refine qv hev ?_;refine zQ 1 ?_
     have PB:code++[cg 4 0 0 []]++aE (bR q.l) (code.length+1)++[cg 4 1 0 []]++[cg 7 (r:Nat) 0 []]=code++dj (bR q.l) code.length r:=by
      unfold dj;simp
     rw[PB] at hH;have hH:=(hH.erase 2).erase 2;have hH:=hH.front at1;have hH:=hH.front at2;refine zQ 4 ?_;exact⟨mm-1,by omega,⟨r+1,cd,q.d,.win k33 0 0 q.l.length 1,.win k36 0 0 q.l.length 1,Oo,dk,code++dj (bR q.l) code.length r,aq++[((code.length:Nat):Int)],rfl,(by rw[List.map_append (f:=aj)];exact hH),by omega,hX,by rw[List.length_append,jo pw];omega,by rw[List.length_append];simp only[List.length_cons,List.length_nil];omega⟩⟩
  ·refine qq<|qE rfl (by simp;omega) ?_;refine zQ 1 ?_;rw[List.drop_of_length_le (by omega),List.map_nil,lX] at hX;refine zQ 7 ?_;refine EvO.eI (qs:=[(0,_),(1,_)]) rfl rfl rfl rfl ⟨rfl,(ev rfl),(by exact hH.dcells (by exact at1)),rfl,(ev rfl),(by exact hH.ocells (by exact at0)),trivial⟩ (by intro q hq;simp only[List.mem_cons,List.not_mem_nil,or_false] at hq;rcases hq with rfl|rfl<;>exact⟨rfl,by exact Nat.le_of_ble_eq_true rfl⟩) (by show List.foldl _ [_,_] _=_;dsimp only[List.foldl_cons,List.foldl_nil,u2,u1]<;>rfl) (put_T rfl _) ?_;refine qS hH at3 fun st hH=>?_;dsimp only[u2,u1,u3,u4,setMany,u5,u6,D.cells,Nat.reduceAdd,aA,aO,aj,zU] at hH;refine zQ 3 ?_;rw[←hX];have h1:=hH.uO at1 (n:=13) (by decide);have h2:=hH.yh at0 (lQ _) (n:=14) (by decide)
   have h4:aY st s0.bs.length false 15 (.agg [cd,sd])=some (pgV code aq).d:=by
    show(fV (aY st s0.bs.length false 14) [cd,sd]).map D.agg=_;simp only[fV,h1,h2,Option.map_some];rfl
   have h3:aY st s0.bs.length false 16 (po [.agg [cd,sd],.int .i64 0,.int .i64 0])=some (compD ⟨code,aq,0,0⟩):=by
    show(fV (aY st s0.bs.length false 15) [.agg [cd,sd],.int .i64 0,.int .i64 0]).map D.tup=_;simp only[fV,h4];rfl
   exact EvC.ret ⟨rx,_,hH.jr rfl at3 rfl rfl rfl,rl hSb hH h3⟩
theorem uZ:∀(ls:List (List Nod)) (r:Nat) (c:List az) (s:List Int),(∀l∈ls,∀n∈l,n.rs.length≤1048576)→(∀i∈c,gZ i)→c.length≤400→s.length≤r→(∀i∈(dr ls r c s).code,gZ i)∧(dr ls r c s).code.length≤400∧(dr ls r c s).aq.length≤r+ls.length
 |[],r,c,s,_,h1,h2,h3=>by rw[lX];exact⟨h1,h2,by simpa using h3⟩
 |l::ls,r,c,s,h0,h1,h2,h3=>by
  have NW:∀e w:Int,(∀i∈(pe.mk [] [] e w).code,gZ i)∧(pe.mk [] [] e w).code.length≤400∧(pe.mk [] [] e w).aq.length≤r+(l::ls).length:=fun e w=>⟨fun i hi=>(by cases hi),by simp,by simp⟩
  rw[dr]
  split
  ·exact NW _ _
  ·rename_i hr;rw[Bool.not_eq_false] at hr
   split
   ·exact NW _ _
   ·rename_i hb;obtain⟨t1,t2⟩:=rI hr
    obtain⟨h4,h5,h6⟩:=uZ ls (r+1) (c++dj (bR l) c.length r) (s++[((c.length:Nat):Int)]) (fun l' hl'=>h0 l' (List.mem_cons_of_mem _ hl')) (fun i hi=>by
     rcases List.mem_append.1 hi with hi|hi
     ·exact h1 i hi
     ·exact CY (by rw[t2];exact h0 l (List.mem_cons_self ..)) i hi) (by rw[List.length_append,jo t1];omega) (by rw[List.length_append];simp only[List.length_cons,List.length_nil];omega)
    exact⟨h4,h5,by simp only[List.length_cons];omega⟩
theorem uY {ls:List (List Nod)} (h:∀l∈ls,∀n∈l,n.rs.length≤1048576):(pgV (compileS ls).code (compileS ls).aq).ok∧(compileS ls).code.length≤400:=by
 unfold compileS
 split
 ·exact⟨AK (fun i hi=>(by cases hi)) (by simp) (by simp),by simp⟩
 ·obtain⟨h1,h2,h3⟩:=uZ ls 0 [] [] h (fun i hi=>by cases hi) (by simp) (by simp);exact⟨AK h1 (by omega) (by omega),h2⟩
def strC (b:List UInt8):List D:=[.str b]
theorem str_get {l:List (List UInt8)} {i:Nat} {q:List UInt8} (h:l[i]?=some q):(l.map strC)[i]?=some (strC q):=by rw[List.getElem?_map,h];rfl
theorem EZ {parts:List (List Nod)} (h:∀l∈parts,(∀n∈l,NdV n)∧l.length≤500):∀r∈parts.map (fun l=>(⟨tc l,l⟩:Nl)),r.ok:=by
 intro r hr;obtain⟨l,hl,rfl⟩:=List.mem_map.1 hr;exact G9 (h l hl).1 (by have:=(h l hl).2;omega)
theorem A5 {parts:List (List Nod)}:(parts.map (fun l=>(⟨tc l,l⟩:Nl))).map zU=parts.map partC:=by
 rw[List.map_map];rfl
theorem comp_parts {s0:St} {y:D} {parts:List (List Nod)} (h:∀l∈parts,(∀n∈l,NdV n)∧l.length≤500) (hl:parts.length≤1048576) (hy:V.Rows s0 1 y (parts.map partC)):Ev pv 8 [y] s0 (compD (compileS parts)) s0∧(pgV (compileS parts).code (compileS parts).aq).ok∧(compileS parts).code.length≤400:=by
 have h1:=w6 (s0:=s0) (x:=y) (rules:=parts.map (fun l=>(⟨tc l,l⟩:Nl))) (by rw[A5];exact hy) (EZ h) (by rw[List.length_map];exact hl);have h2:(parts.map (fun l=>(⟨tc l,l⟩:Nl))).map (·.l)=parts:=by rw[List.map_map];exact List.map_id _
 rw[h2] at h1;exact⟨h1,uY fun l hl n hn=>((h l hl).1 n hn).2.1⟩
def xA (n:Nat) (i:az):az:=if i.op=2 then⟨2,i.x+n,i.y+n,i.rd,i.rs⟩ else if i.op=3 then⟨3,i.x+n,i.y,i.rd,i.rs⟩ else i
theorem nC (n:Nat) {op:Int} (x y:Int) (rs:List Rg) (h2:op≠2) (h3:op≠3):xA n (cg op x y rs)=cg op x y rs:=by
 unfold xA cg;rw[if_neg h2,if_neg h3]
theorem vJ (n s o:Nat) (lz:Bool):xA n (lj s o lz)=lj (s+n) (o+n) lz:=by
 cases lz
 ·show(⟨2,((s+1:Nat):Int)+n,(o:Int)+n,_,_⟩:az)=cg 2 ((s+n+1:Nat):Int) ((o+n:Nat):Int) [];unfold cg
  congr 1;omega
 ·show(⟨2,(o:Int)+n,((s+1:Nat):Int)+n,_,_⟩:az)=cg 2 ((o+n:Nat):Int) ((s+n+1:Nat):Int) [];unfold cg
  congr 1;omega
theorem Au (n e:Nat):xA n (kz e)=kz (e+n):=by
 show(⟨3,(e:Int)+n,0,_,_⟩:az)=cg 3 ((e+n:Nat):Int) 0 [];unfold cg
 congr 1
theorem rQ {c:Nat→List az} {z n:Nat} (hc:∀b,c (b+n)=(c b).map (xA n)):∀k b,dN c z k (b+n)=(dN c z k b).map (xA n)
 |0,b=>rfl
 |k+1,b=>by
  have h:=rQ hc (z:=z) k (b+z);rw[Nat.add_right_comm] at h;rw[dN,dN,List.map_append,hc,h]
theorem xI {sp Nf:Nat→az} {c:Nat→List az} {z n:Nat} (hs:∀s,Nf (s+n)=xA n (sp s)) (hc:∀b,c (b+n)=(c b).map (xA n)):∀k b,dF Nf c z k (b+n)=(dF sp c z k b).map (xA n)
 |0,b=>rfl
 |k+1,b=>by
  have h:=xI hs hc (z:=z) k (b+1+z);have e1:b+1+z+n=b+n+1+z:=by omega
  have e2:b+n+1=b+1+n:=by omega
  rw[e1] at h;rw[dF,dF,List.map_cons,List.map_append,hs,h,e2,hc]
theorem CZ {nd:Nod} {c:Nat→List az} {z n b:Nat} (hc:∀b,c (b+n)=(c b).map (xA n)):lx nd c z (b+n)=(lx nd c z b).map (xA n):=by
 unfold lx
 split
 ·rw[List.map_append,rQ hc,List.map_cons,List.map_append,vJ,List.map_cons,List.map_nil,Au];have e1:b+n+nd.mn.toNat*z=b+nd.mn.toNat*z+n:=by omega
  have e2:b+nd.mn.toNat*z+n+1=b+nd.mn.toNat*z+1+n:=by omega
  have e3:b+nd.mn.toNat*z+n+z+2=b+nd.mn.toNat*z+z+2+n:=by omega
  rw[e1,e2,e3,hc]
 ·rw[List.map_append,rQ hc];have e1:b+n+nd.mn.toNat*z=b+nd.mn.toNat*z+n:=by omega
  rw[e1]
  congr 1
  refine xI (fun s=>?_) hc _ _;rw[vJ]
  congr 1
  omega
mutual
theorem oZ (n:Nat):∀(t:Tr) (b:Nat),aE t (b+n)=(aE t b).map (xA n)
 | .mk nd ks,b=>by
  have hc:=fun b=>yl n ks b;have ha:=fun e b=>yw n e ks b;simp only[aE]
  split
  ·rw[List.map_cons,List.map_nil,nC _ _ _ _ (by decide) (by decide)]
  split
  ·rw[List.map_cons,List.map_nil,nC _ _ _ _ (by decide) (by decide)]
  split
  ·rw[List.map_cons,List.map_nil,nC _ _ _ _ (by decide) (by decide)]
  split
  ·exact hc b
  split
  ·rw[Nat.add_right_comm];exact ha _ b
  split
  ·exact CZ hc
  split
  ·rw[List.map_cons,List.map_append,List.map_cons,List.map_nil,nC _ _ _ _ (by decide) (by decide),nC _ _ _ _ (by decide) (by decide),Nat.add_right_comm,hc]
  ·rfl
theorem yl (n:Nat):∀(ts:aW) (b:Nat),et ts (b+n)=(et ts b).map (xA n)
 | .nil,b=>by simp only[et,List.map_nil]
 | .cons t ts,b=>by
  have h:=yl n ts (b+t.sz);rw[Nat.add_right_comm] at h;simp only[et,List.map_append];rw[oZ n t b,h]
theorem yw (n:Nat):∀(e:Nat) (ts:aW) (b:Nat),di (kz (e+n)) ts (b+n)=(di (kz e) ts b).map (xA n)
 |e,.nil,b=>by simp only[di,List.map_nil]
 |e,.cons t ts,b=>by
  have h:=yw n e ts (b+t.sz+2);have h1:=oZ n t (b+1);have e1:b+t.sz+2+n=b+n+t.sz+2:=by omega
  have e2:b+1+n=b+n+1:=by omega
  have e3:b+1+t.sz+1+n=b+n+1+t.sz+1:=by omega
  rw[e1] at h;rw[e2] at h1;simp only[di]
  split
  ·exact oZ n t b
  ·rw[List.map_cons,List.map_append,List.map_cons,vJ,Au,h1,h,e3]
end
def l9 (lo hi:Nat) (i:az):Prop:=i.op≠7∧(i.op=2→((lo:Int)≤i.x∧i.x≤hi)∧(lo:Int)≤i.y∧i.y≤hi)∧(i.op=3→(lo:Int)≤i.x∧i.x≤hi)
theorem l9.mono {lo hi qI fT:Nat} {i:az} (h:l9 lo hi i) (h1:qI≤lo) (h2:hi≤fT):l9 qI fT i:=
 ⟨h.1,fun e=>by have:=h.2.1 e;omega,fun e=>by have:=h.2.2 e;omega⟩
theorem l9.mk {lo hi:Nat} {op:Int} (x y:Int) (rs:List Rg) (h2:op≠2) (h3:op≠3) (h7:op≠7):l9 lo hi (cg op x y rs):=⟨h7,fun h=>absurd h h2,fun h=>absurd h h3⟩
theorem l9.sp {lo hi s o:Nat} {lz:Bool} (h1:lo≤s+1∧s+1≤hi) (h2:lo≤o∧o≤hi):l9 lo hi (lj s o lz):=by
 cases lz
 ·exact⟨by show(2:Int)≠7;decide,fun _=>by show((lo:Int)≤((s+1:Nat):Int)∧((s+1:Nat):Int)≤hi)∧(lo:Int)≤(o:Int)∧(o:Int)≤hi;omega,fun h=>absurd h (by show¬(2:Int)=3;decide)⟩
 ·exact⟨by show(2:Int)≠7;decide,fun _=>by show((lo:Int)≤(o:Int)∧(o:Int)≤hi)∧(lo:Int)≤((s+1:Nat):Int)∧((s+1:Nat):Int)≤hi;omega,fun h=>absurd h (by show¬(2:Int)=3;decide)⟩
theorem l9.jp {lo hi e:Nat} (h1:lo≤e∧e≤hi):l9 lo hi (kz e):=
 ⟨by show(3:Int)≠7;decide,fun h=>absurd h (by show¬(3:Int)=2;decide),fun _=>by show(lo:Int)≤(e:Int)∧(e:Int)≤hi;omega⟩
theorem rR {c:Nat→List az} {z:Nat} (hc:∀b,∀i∈c b,l9 b (b+z) i):∀k b,∀i∈dN c z k b,l9 b (b+k*z) i
 |0,b,i,hi=>by cases hi
 |k+1,b,i,hi=>by
  simp only[dN] at hi;rw[Nat.succ_mul]
  rcases List.mem_append.1 hi with hi|hi
  ·exact(hc b i hi).mono (Nat.le_refl _) (by omega)
  ·exact(rR hc k _ i hi).mono (by omega) (by omega)
theorem xJ {sp:Nat→az} {c:Nat→List az} {z lo hi:Nat} (hs:∀s,lo≤s→s+1≤hi→l9 lo hi (sp s)) (hc:∀b,∀i∈c b,l9 b (b+z) i):∀k b,lo≤b→b+k*(z+1)≤hi→∀i∈dF sp c z k b,l9 lo hi i
 |0,b,_,_,i,fT=>by cases fT
 |k+1,b,h1,h2,i,fT=>by
  simp only[dF] at fT;rw[Nat.succ_mul] at h2
  rcases List.mem_cons.1 fT with rfl|fT
  ·exact hs b h1 (by omega)
  ·rcases List.mem_append.1 fT with fT|fT
   ·exact(hc _ i fT).mono (by omega) (by omega)
   ·exact xJ hs hc k _ (by omega) (by omega) i fT
mutual
theorem o0:∀(t:Tr) (b:Nat),t.ok→∀i∈aE t b,l9 b (b+t.sz) i
 | .mk n ks,b,hok,i,hi=>by
  simp only[Tr.ok] at hok;have hc:=fun b=>ym ks b hok.2;obtain⟨_,hq⟩:=hok.1;simp only[aE] at hi;simp only[Tr.sz]
  by_cases q2:n.op=2
  ·rw[if_pos q2] at hi;simp only[List.mem_cons,List.not_mem_nil,or_false] at hi;subst hi;exact l9.mk _ _ _ (by decide) (by decide) (by decide)
  rw[if_neg q2] at hi
  by_cases q7:n.op=7
  ·rw[if_pos q7] at hi;simp only[List.mem_cons,List.not_mem_nil,or_false] at hi;subst hi;exact l9.mk _ _ _ (by decide) (by decide) (by decide)
  rw[if_neg q7] at hi
  by_cases q8:n.op=8
  ·rw[if_pos q8] at hi;simp only[List.mem_cons,List.not_mem_nil,or_false] at hi;subst hi;exact l9.mk _ _ _ (by decide) (by decide) (by decide)
  rw[if_neg q8] at hi
  have hz:∀s k,a_ n s k=if n.op=4 then s+2*(k-1) else if n.op=6 then s+2 else if n.op=5 then(if n.mx=-1 then n.mn.toNat*s+s+2 else n.mn.toNat*s+(n.mx.toNat-n.mn.toNat)*(s+1)) else s:=by
   intro s k;unfold a_;rw[if_neg (by omega)]
  by_cases q3:n.op=3
  ·rw[if_pos q3] at hi;rw[hz,if_neg (by omega),if_neg (by omega),if_neg (by omega)];exact hc b i hi
  rw[if_neg q3] at hi
  by_cases q4:n.op=4
  ·rw[if_pos q4] at hi;have Hm:a_ n ks.sz ks.len=ks.sz+2*(ks.len-1):=by rw[hz,if_pos q4]
   rw[Hm] at hi⊢;exact yx ks b (b+(ks.sz+2*(ks.len-1))) hok.2 (Nat.le_refl _) i hi
  rw[if_neg q4] at hi
  by_cases q5:n.op=5
  ·rw[if_pos q5] at hi;rw[hz,if_neg q4,if_neg (by omega),if_pos q5];unfold lx at hi
   by_cases qm:n.mx=-1
   ·rw[if_pos qm] at hi⊢
    rcases List.mem_append.1 hi with hi|hi
    ·exact(rR hc _ _ i hi).mono (Nat.le_refl _) (by omega)
    ·rcases List.mem_cons.1 hi with rfl|hi
     ·exact l9.sp (by omega) (by omega)
     ·rcases List.mem_append.1 hi with hi|hi
      ·exact(hc _ i hi).mono (by omega) (by omega)
      ·simp only[List.mem_cons,List.not_mem_nil,or_false] at hi;subst hi;exact l9.jp (by omega)
   ·rw[if_neg qm] at hi⊢
    rcases List.mem_append.1 hi with hi|hi
    ·exact(rR hc _ _ i hi).mono (Nat.le_refl _) (by omega)
    ·exact xJ (fun s h1 h2=>l9.sp (by omega) (by omega)) hc _ _ (by omega) (by omega) i hi
  rw[if_neg q5] at hi
  by_cases q6:n.op=6
  ·rw[if_pos q6] at hi;rw[hz,if_neg q4,if_pos q6]
   rcases List.mem_cons.1 hi with rfl|hi
   ·exact l9.mk _ _ _ (by decide) (by decide) (by decide)
   ·rcases List.mem_append.1 hi with hi|hi
    ·exact(hc _ i hi).mono (by omega) (by omega)
    ·simp only[List.mem_cons,List.not_mem_nil,or_false] at hi;subst hi;exact l9.mk _ _ _ (by decide) (by decide) (by decide)
  ·rw[if_neg q6] at hi;cases hi
theorem ym:∀(ts:aW) (b:Nat),ts.ok→∀i∈et ts b,l9 b (b+ts.sz) i
 | .nil,b,_,i,hi=>by simp[et] at hi
 | .cons t ts,b,hok,i,hi=>by
  simp only[aW.ok] at hok;simp only[et] at hi;simp only[aW.sz]
  rcases List.mem_append.1 hi with hi|hi
  ·exact(o0 t b hok.1 i hi).mono (Nat.le_refl _) (by omega)
  ·exact(ym ts _ hok.2 i hi).mono (by omega) (by omega)
theorem yx:∀(ts:aW) (b e:Nat),ts.ok→b+(ts.sz+2*(ts.len-1))≤e→∀i∈di (kz e) ts b,l9 b e i
 | .nil,b,e,_,_,i,hi=>by simp[di] at hi
 | .cons t ts,b,e,hok,he,i,hi=>by
  simp only[aW.ok] at hok;simp only[di] at hi;simp only[aW.sz,aW.len] at he
  by_cases q:ts.len=0
  ·rw[if_pos q] at hi;exact(o0 t b hok.1 i hi).mono (Nat.le_refl _) (by omega)
  ·rw[if_neg q] at hi
   rcases List.mem_cons.1 hi with rfl|hi
   ·exact l9.sp (by omega) (by omega)
   ·rcases List.mem_append.1 hi with hi|hi
    ·exact(o0 t _ hok.1 i hi).mono (by omega) (by omega)
    ·rcases List.mem_cons.1 hi with rfl|hi
     ·exact l9.jp (by omega)
     ·exact(yx ts _ e hok.2 (by omega) i hi).mono (by omega) (by omega)
end
theorem w7 (r:Nat) (c:List az) (s:List Int):dr [] r c s=⟨c,s,0,0⟩:=by simp only[dr]
theorem uW {code:List az} {pc:Nat} {i:az} (h:(code.map de)[pc]?=some i):∃q,code[pc]?=some q∧i=de q:=by
 rw[List.getElem?_map] at h;obtain⟨q,hq,rfl⟩:=Option.map_eq_some_iff.1 h;exact⟨q,hq,rfl⟩
theorem get_copy {code:List az} {pc:Nat} {i:az} (h:code[pc]?=some i):(code.map de)[pc]?=some (de i):=by
 rw[List.getElem?_map,h];rfl
theorem uV (code:List az):∀(f:Nat) (seen:List Bool) (dV:List Int),wX (code.map de) f seen dV=wX code f seen dV
 |0,_,_=>rfl
 |_+1,_,[]=>rfl
 |f+1,seen,v::dV=>by
  have ih:=uV code f;unfold wX;rw[List.getElem?_map]
  cases h1:seen[v.toNat]? with
  |none=>exact ih _ _
  |some b=>
   cases b with
   |true=>exact ih _ _
   |false=>
    cases h2:code[v.toNat]? with
    |none=>rfl
    |some i=>exact ih _ _
theorem nN (code:List az) (s:Int):a8 (code.map de) s=a8 code s:=by
 unfold a8;rw[List.length_map,uV]
theorem vN {p q:Pg} (h1:q.code=p.code.map de) (h2:q.aq=p.aq):aR q↔aR p:=by
 have hl:q.code.length=p.code.length:=by rw[h1];simp
 constructor
 ·intro h;refine⟨by rw[←hl];exact h.cl,by rw[←h2];exact h.sl,fun pc i hi=>?_,fun v hv=>?_,fun r s hs pc i Bt DB hi eB=>?_⟩
  ·have:=h.sh pc (de i) (by rw[h1];exact get_copy hi);rw[hl,h2] at this;exact this
  ·have:=h.st v (by rw[h2];exact hv);rw[hl] at this;exact this
  ·exact h.fo r s (by rw[h2];exact hs) pc (de i) (by rw[hl];exact Bt) (by rw[h1,nN];exact DB) (by rw[h1];exact get_copy hi) eB
 ·intro h;refine⟨by rw[hl];exact h.cl,by rw[h2];exact h.sl,fun pc i hi=>?_,fun v hv=>?_,fun r s hs pc i Bt DB hi eB=>?_⟩
  ·rw[h1] at hi;obtain⟨j,hj,rfl⟩:=uW hi;rw[hl,h2];exact h.sh pc j hj
  ·rw[hl];exact h.st v (by rw[←h2];exact hv)
  ·rw[h1] at hi DB;rw[nN] at DB;obtain⟨j,hj,rfl⟩:=uW hi;exact h.fo r s (by rw[←h2];exact hs) pc j (by rw[←hl];exact Bt) DB hj eB
def gw (seen:List Bool) (v:Int):Prop:=0≤v∧seen[v.toNat]?=some true
structure xk (code:List az) (start:Int) (seen:List Bool) (dV:List Int):Prop where
 a:∀u i,seen[u]?=some true→code[u]?=some i→∀w∈bA u i,gw seen w∨w∈dV
 b:∀v∈dV,v=start∨∃u i,seen[u]?=some true∧code[u]?=some i∧v∈bA u i
 c:∀v,gw seen v→v=start∨∃u i,seen[u]?=some true∧code[u]?=some i∧v∈bA u i∧v≠(u:Int)
 d:gw seen start∨start∈dV
theorem dC {seen:List Bool} {k:Nat} (hk:k<seen.length) {v:Int}:gw (seen.set k true) v↔v=(k:Int)∨gw seen v:=by
 unfold gw;constructor
 ·rintro⟨h0,h⟩
  by_cases hv:v.toNat=k
  ·left;omega
  ·rw[List.getElem?_set_ne (fun e=>hv e.symm)] at h;exact .inr ⟨h0,h⟩
 ·rintro(rfl|⟨h0,h⟩)
  ·exact⟨by omega,by rw[Int.toNat_natCast,List.getElem?_set_self hk]⟩
  ·refine⟨h0,?_⟩
   by_cases hv:v.toNat=k
   ·rw[hv,List.getElem?_set_self hk]
   ·rw[List.getElem?_set_ne (fun e=>hv e.symm)];exact h
theorem cB {seen:List Bool} {u:Nat}:seen[u]?=some true↔gw seen (u:Int):=by
 unfold gw;rw[Int.toNat_natCast];exact⟨fun h=>⟨by omega,h⟩,fun h=>h.2⟩
theorem wV {code:List az} {start:Int} (hcl:gm code):∀(f:Nat) (seen:List Bool) (dV:List Int),seen.length=code.length→(∀v∈dV,0≤v∧v<(code.length:Int))→3*seen.count false+dV.length≤f→xk code start seen dV→xk code start (wX code f seen dV) []
 |0,seen,dV,_,_,hm,hi=>by
  have:dV=[]:=by cases dV with|nil=>rfl|cons _ _=>simp at hm
  subst this;exact hi
 |f+1,seen,[],_,_,_,hi=>hi
 |f+1,seen,v::dV,hl,hs,hm,hi=>by
  have hv:=hs v (List.mem_cons_self ..);have oC:∀w∈dV,0≤w∧w<(code.length:Int):=fun w hw=>hs w (List.mem_cons_of_mem _ hw);obtain⟨k,rfl⟩:=Int.eq_ofNat_of_zero_le hv.1;have hk:k<code.length:=by omega
  obtain⟨i,hci⟩:∃i,code[k]?=some i:=⟨code[k]'hk,List.getElem?_eq_getElem _⟩
  obtain⟨b,hb⟩:∃b,seen[k]?=some b:=⟨seen[k]'(by omega),List.getElem?_eq_getElem _⟩
  simp only[List.length_cons] at hm;have hp:∀w,w∈((k:Int)::dV)→w=(k:Int)∨w∈dV:=fun w hw=>List.mem_cons.1 hw;unfold wX;simp only[Int.toNat_natCast,hb,hci]
  cases b with
  |true=>
   have j8:gw seen (k:Int):=cB.1 hb;refine wV hcl f seen dV hl oC (by omega) ⟨fun u j hu hj w hw=>?_,fun w hw=>hi.b w (List.mem_cons_of_mem _ hw),hi.c,?_⟩
   ·rcases hi.a u j hu hj w hw with h|h
    ·exact .inl h
    ·rcases hp w h with rfl|h
     ·exact .inl j8
     ·exact .inr h
   ·rcases hi.d with h|h
    ·exact .inl h
    ·rcases hp start h with h|h
     ·exact .inl (h▸j8)
     ·exact .inr h
  |false=>
   have BI:=count_set hb;have gx:k<seen.length:=by omega
   have Lh:=ud k i;refine wV hcl f _ _ (by rw[List.length_set];exact hl) (fun w hw=>?_) (by simp only[List.length_append,List.length_reverse];omega) ⟨fun u j hu hj w hw=>?_,fun w hw=>?_,fun w hw=>?_,?_⟩
   ·rcases List.mem_append.1 hw with hw|hw
    ·exact hcl k i hci w (List.mem_reverse.1 hw)
    ·exact oC w hw
   ·rcases(dC gx).1 (cB.1 hu) with h|h
    ·have:u=k:=by omega
     subst this;rw[hci] at hj;cases hj;exact .inr (List.mem_append.2 (.inl (List.mem_reverse.2 hw)))
    ·rcases hi.a u j (cB.2 h) hj w hw with h|h
     ·exact .inl ((dC gx).2 (.inr h))
     ·rcases hp w h with h|h
      ·exact .inl ((dC gx).2 (.inl h))
      ·exact .inr (List.mem_append.2 (.inr h))
   ·rcases List.mem_append.1 hw with hw|hw
    ·exact .inr ⟨k,i,cB.2 ((dC gx).2 (.inl rfl)),hci,List.mem_reverse.1 hw⟩
    ·rcases hi.b w (List.mem_cons_of_mem _ hw) with h|⟨u,j,h1,h2,h3⟩
     ·exact .inl h
     ·exact .inr ⟨u,j,cB.2 ((dC gx).2 (.inr (cB.1 h1))),h2,h3⟩
   ·rcases(dC gx).1 hw with rfl|h
    ·rcases hi.b (k:Int) (List.mem_cons_self ..) with h|⟨u,j,h1,h2,h3⟩
     ·exact .inl h
     ·refine .inr ⟨u,j,cB.2 ((dC gx).2 (.inr (cB.1 h1))),h2,h3,fun e=>?_⟩;have:k=u:=by omega
      subst this;rw[hb] at h1;cases h1
    ·rcases hi.c w h with h|⟨u,j,h1,h2,h3,h4⟩
     ·exact .inl h
     ·exact .inr ⟨u,j,cB.2 ((dC gx).2 (.inr (cB.1 h1))),h2,h3,h4⟩
   ·rcases hi.d with h|h
    ·exact .inl ((dC gx).2 (.inr h))
    ·rcases hp start h with h|h
     ·exact .inl ((dC gx).2 (.inl h))
     ·exact .inr (List.mem_append.2 (.inr h))
theorem kg {code:List az} {start:Int} (hcl:gm code) (fv:0≤start∧start<(code.length:Int)):xk code start (a8 code start) []:=by
 have lS:∀v,¬gw (List.replicate code.length false) v:=by
  rintro v ⟨h0,h⟩;rw[List.getElem?_replicate] at h
  split at h<;>cases h
 refine wV hcl _ _ _ (by simp) (fun v hv=>?_) (by simp) ⟨fun u i hu=>absurd (cB.1 hu) (lS _),fun v hv=>?_,fun v hv=>absurd hv (lS v),.inr (by simp)⟩
 ·simp only[List.mem_cons,List.not_mem_nil,or_false] at hv;subst hv;exact fv
 ·simp only[List.mem_cons,List.not_mem_nil,or_false] at hv;exact .inl hv
theorem gN:∀{L:List Bool} {s:Nat} {v:Int},v∈nW s L↔∃k:Nat,L[k]?=some true∧v=((s+k:Nat):Int)
 |[],s,v=>⟨fun h=>(by cases h),fun⟨k,h,_⟩=>by simp at h⟩
 |b::l,s,v=>by
  simp only[nW,List.mem_append];constructor
  ·rintro(h|h)
   ·split at h
    ·rename_i hb;simp only[List.mem_cons,List.not_mem_nil,or_false] at h;exact⟨0,by simp[hb],by rw[h];simp⟩
    ·cases h
   ·obtain⟨k,h1,h2⟩:=gN.1 h;exact⟨k+1,by simpa using h1,by rw[h2];congr 1;omega⟩
  ·rintro⟨k,h1,h2⟩
   cases k with
   |zero=>simp at h1;subst h1;left;simp[h2]
   |succ k=>exact .inr (gN.2 ⟨k,by simpa using h1,by rw[h2];congr 1;omega⟩)
theorem pS : ∀ (L : List Bool) (s : Nat), (nW s L).Pairwise (· < ·)
 | [], s => .nil
 | b :: l, s => by
  simp only [nW];have ih := pS l (s + 1)
  split
  ·rw [List.singleton_append, List.pairwise_cons];refine ⟨fun v hv => ?_, ih⟩;obtain ⟨k, _, rfl⟩ := gN.1 hv;omega
  ·exact ih
def cp (lo hi:Nat) (i:az):Prop:=
 (i.op=1∧i.x=0∧i.y=0∧dM i.rs=true)∨(i.op=2∧i.rs=[]∧((lo:Int)≤i.x∧i.x≤hi)∧(lo:Int)≤i.y∧i.y≤hi)∨(i.op=3∧i.rs=[]∧i.y=0∧(lo:Int)≤i.x∧i.x≤hi)∨(i.op=4∧i.rs=[]∧i.y=0∧0≤i.x∧i.x<10)∨((i.op=5∨i.op=6)∧i.rs=[]∧i.y=0∧i.x=0)
theorem cp.mono {lo hi qI fT:Nat} {i:az} (h:cp lo hi i) (h1:qI≤lo) (h2:hi≤fT):cp qI fT i:=by
 rcases h with h|⟨a,b,c,d⟩|⟨a,b,c,d⟩|h|h
 ·exact .inl h
 ·exact .inr (.inl ⟨a,b,by omega,by omega⟩)
 ·exact .inr (.inr (.inl ⟨a,b,c,by omega⟩))
 ·exact .inr (.inr (.inr (.inl h)))
 ·exact .inr (.inr (.inr (.inr h)))
theorem cp.sp {lo hi s o:Nat} {lz:Bool} (h1:lo≤s+1∧s+1≤hi) (h2:lo≤o∧o≤hi):cp lo hi (lj s o lz):=by
 refine .inr (.inl ?_);cases lz
 ·refine⟨rfl,rfl,?_⟩;show((lo:Int)≤((s+1:Nat):Int)∧((s+1:Nat):Int)≤hi)∧(lo:Int)≤(o:Int)∧(o:Int)≤hi;omega
 ·refine⟨rfl,rfl,?_⟩;show((lo:Int)≤(o:Int)∧(o:Int)≤hi)∧(lo:Int)≤((s+1:Nat):Int)∧((s+1:Nat):Int)≤hi;omega
theorem cp.jp {lo hi e:Nat} (h1:lo≤e∧e≤hi):cp lo hi (kz e):=by
 refine .inr (.inr (.inl ⟨rfl,rfl,rfl,?_⟩));show(lo:Int)≤(e:Int)∧(e:Int)≤hi;omega
theorem cp.save {lo hi:Nat} {x:Int} (h:0≤x∧x<10):cp lo hi (cg 4 x 0 []):=.inr (.inr (.inr (.inl ⟨rfl,rfl,rfl,h⟩)))
theorem lA {c:Nat→List az} {z:Nat} (hc:∀b,∀i∈c b,cp b (b+z) i):∀k b,∀i∈dN c z k b,cp b (b+k*z) i
 |0,b,i,hi=>by cases hi
 |k+1,b,i,hi=>by
  simp only[dN] at hi;rw[Nat.succ_mul]
  rcases List.mem_append.1 hi with hi|hi
  ·exact(hc b i hi).mono (Nat.le_refl _) (by omega)
  ·exact(lA hc k _ i hi).mono (by omega) (by omega)
theorem pQ {sp:Nat→az} {c:Nat→List az} {z lo hi:Nat} (hs:∀s,lo≤s→s+1≤hi→cp lo hi (sp s)) (hc:∀b,∀i∈c b,cp b (b+z) i):∀k b,lo≤b→b+k*(z+1)≤hi→∀i∈dF sp c z k b,cp lo hi i
 |0,b,_,_,i,fT=>by cases fT
 |k+1,b,h1,h2,i,fT=>by
  simp only[dF] at fT;rw[Nat.succ_mul] at h2
  rcases List.mem_cons.1 fT with rfl|fT
  ·exact hs b h1 (by omega)
  ·rcases List.mem_append.1 fT with fT|fT
   ·exact(hc _ i fT).mono (by omega) (by omega)
   ·exact pQ hs hc k _ (by omega) (by omega) i fT
def Cx (l:List Nod):Prop:=∀n∈l,n.op=2→dM n.rs=true
mutual
theorem iz:∀(t:Tr) (b:Nat),t.ok→Cx t.flat→∀i∈aE t b,cp b (b+t.sz) i
 | .mk n ks,b,hok,kB,i,hi=>by
  simp only[Tr.ok] at hok;simp only[Tr.flat] at kB;have hc:=fun b=>ry ks b hok.2 (fun n hn=>kB n (List.mem_cons_of_mem _ hn));obtain⟨_,hq⟩:=hok.1;simp only[aE] at hi;simp only[Tr.sz]
  by_cases q2:n.op=2
  ·rw[if_pos q2] at hi;simp only[List.mem_cons,List.not_mem_nil,or_false] at hi;subst hi;exact .inl ⟨rfl,rfl,rfl,kB n (List.mem_cons_self ..) q2⟩
  rw[if_neg q2] at hi
  by_cases q7:n.op=7
  ·rw[if_pos q7] at hi;simp only[List.mem_cons,List.not_mem_nil,or_false] at hi;subst hi;exact .inr (.inr (.inr (.inr ⟨.inl rfl,rfl,rfl,rfl⟩)))
  rw[if_neg q7] at hi
  by_cases q8:n.op=8
  ·rw[if_pos q8] at hi;simp only[List.mem_cons,List.not_mem_nil,or_false] at hi;subst hi;exact .inr (.inr (.inr (.inr ⟨.inr rfl,rfl,rfl,rfl⟩)))
  rw[if_neg q8] at hi
  have hz:∀s k,a_ n s k=if n.op=4 then s+2*(k-1) else if n.op=6 then s+2 else if n.op=5 then(if n.mx=-1 then n.mn.toNat*s+s+2 else n.mn.toNat*s+(n.mx.toNat-n.mn.toNat)*(s+1)) else s:=by
   intro s k;unfold a_;rw[if_neg (by omega)]
  by_cases q3:n.op=3
  ·rw[if_pos q3] at hi;rw[hz,if_neg (by omega),if_neg (by omega),if_neg (by omega)];exact hc b i hi
  rw[if_neg q3] at hi
  by_cases q4:n.op=4
  ·rw[if_pos q4] at hi;have Hm:a_ n ks.sz ks.len=ks.sz+2*(ks.len-1):=by rw[hz,if_pos q4]
   rw[Hm] at hi⊢;exact rC ks b (b+(ks.sz+2*(ks.len-1))) hok.2 (fun n hn=>kB n (List.mem_cons_of_mem _ hn)) (Nat.le_refl _) i hi
  rw[if_neg q4] at hi
  by_cases q5:n.op=5
  ·rw[if_pos q5] at hi;rw[hz,if_neg q4,if_neg (by omega),if_pos q5];unfold lx at hi
   by_cases qx:n.mx=-1
   ·rw[if_pos qx] at hi⊢
    rcases List.mem_append.1 hi with hi|hi
    ·exact(lA hc _ _ i hi).mono (Nat.le_refl _) (by omega)
    ·rcases List.mem_cons.1 hi with rfl|hi
     ·exact cp.sp (by omega) (by omega)
     ·rcases List.mem_append.1 hi with hi|hi
      ·exact(hc _ i hi).mono (by omega) (by omega)
      ·simp only[List.mem_cons,List.not_mem_nil,or_false] at hi;subst hi;exact cp.jp (by omega)
   ·rw[if_neg qx] at hi⊢
    rcases List.mem_append.1 hi with hi|hi
    ·exact(lA hc _ _ i hi).mono (Nat.le_refl _) (by omega)
    ·exact pQ (fun s h1 h2=>cp.sp (by omega) (by omega)) hc _ _ (by omega) (by omega) i hi
  rw[if_neg q5] at hi
  by_cases q6:n.op=6
  ·rw[if_pos q6] at hi;rw[hz,if_neg q4,if_pos q6]
   rcases List.mem_cons.1 hi with rfl|hi
   ·exact cp.save (by omega)
   ·rcases List.mem_append.1 hi with hi|hi
    ·exact(hc _ i hi).mono (by omega) (by omega)
    ·simp only[List.mem_cons,List.not_mem_nil,or_false] at hi;subst hi;exact cp.save (by omega)
  ·rw[if_neg q6] at hi;cases hi
theorem ry:∀(ts:aW) (b:Nat),ts.ok→Cx ts.flat→∀i∈et ts b,cp b (b+ts.sz) i
 | .nil,b,_,_,i,hi=>by simp[et] at hi
 | .cons t ts,b,hok,kB,i,hi=>by
  simp only[aW.ok] at hok;simp only[aW.flat] at kB;simp only[et] at hi;simp only[aW.sz]
  rcases List.mem_append.1 hi with hi|hi
  ·exact(iz t b hok.1 (fun n hn=>kB n (List.mem_append_left _ hn)) i hi).mono (Nat.le_refl _) (by omega)
  ·exact(ry ts _ hok.2 (fun n hn=>kB n (List.mem_append_right _ hn)) i hi).mono (by omega) (by omega)
theorem rC:∀(ts:aW) (b e:Nat),ts.ok→Cx ts.flat→b+(ts.sz+2*(ts.len-1))≤e→∀i∈di (kz e) ts b,cp b e i
 | .nil,b,e,_,_,_,i,hi=>by simp[di] at hi
 | .cons t ts,b,e,hok,kB,he,i,hi=>by
  simp only[aW.ok] at hok;simp only[aW.flat] at kB;simp only[di] at hi;simp only[aW.sz,aW.len] at he;have h1:Cx t.flat:=fun n hn=>kB n (List.mem_append_left _ hn);have h2:Cx ts.flat:=fun n hn=>kB n (List.mem_append_right _ hn)
  by_cases q:ts.len=0
  ·rw[if_pos q] at hi;exact(iz t b hok.1 h1 i hi).mono (Nat.le_refl _) (by omega)
  ·rw[if_neg q] at hi
   rcases List.mem_cons.1 hi with rfl|hi
   ·exact cp.sp (by omega) (by omega)
   ·rcases List.mem_append.1 hi with hi|hi
    ·exact(iz t _ hok.1 h1 i hi).mono (by omega) (by omega)
    ·rcases List.mem_cons.1 hi with rfl|hi
     ·exact cp.jp (by omega)
     ·exact(rC ts _ e hok.2 h2 (by omega) i hi).mono (by omega) (by omega)
end
inductive Path (C:List az):Nat→Nat→Prop where
 |refl (u:Nat):Path C u u
 |step {u v w:Nat} {i:az} (h:C[u]?=some i) (hn:(v:Int)∈bA u i) (p:Path C v w):Path C u w
theorem Path.trans {C:List az} {u v w:Nat} (h:Path C u v) (g:Path C v w):Path C u w:=by
 induction h with
 |refl=>exact g
 |step h hn _ ih=>exact .step h hn (ih g)
theorem Path.wR {C:List az} {u:Nat} {i:az} (h:C[u]?=some i) (ho:i.op≠2∧i.op≠3∧i.op≠7):Path C u (u+1):=
 .step h (by unfold bA;rw[if_neg ho.1,if_neg ho.2.1,if_neg ho.2.2];exact List.mem_cons_self ..) (.refl _)
theorem Path.jp {C:List az} {u e:Nat} (h:C[u]?=some (kz e)):Path C u e:=
 .step h (by show(e:Int)∈bA u (cg 3 (e:Nat) 0 []);unfold bA;rw[if_neg (show¬(cg 3 (e:Nat) 0 []).op=2 by show¬(3:Int)=2;decide),if_pos (show(cg 3 (e:Nat) 0 []).op=3 from rfl)];exact List.mem_cons_self ..) (.refl _)
theorem Path.sp {C:List az} {u s o:Nat} {lz:Bool} (h:C[u]?=some (lj s o lz)):Path C u (s+1)∧Path C u o:=by
 have hn:bA u (lj s o lz)=[(lj s o lz).x,(lj s o lz).y]:=by
  unfold bA;rw[if_pos (by cases lz<;>rfl)]
 cases lz
 ·exact⟨.step h (by rw[hn];exact List.mem_cons_self ..) (.refl _),.step h (by rw[hn];exact List.mem_cons_of_mem _ (List.mem_cons_self ..)) (.refl _)⟩
 ·exact⟨.step h (by rw[hn];exact List.mem_cons_of_mem _ (List.mem_cons_self ..)) (.refl _),.step h (by rw[hn];exact List.mem_cons_self ..) (.refl _)⟩
theorem ly {C:List az} {c:Nat→List az} {z:Nat} (hl:∀b,(c b).length=z) (hc:∀b,ec C b (c b)→Path C b (b+z)):∀k b,ec C b (dN c z k b)→Path C b (b+k*z)
 |0,b,_=>by rw[Nat.zero_mul];exact .refl _
 |k+1,b,h=>by
  rw[dN] at h;have h2:=h.right;rw[hl] at h2;have:=ly hl hc k (b+z) h2;rw[Nat.succ_mul,show b+(k*z+z)=b+z+k*z by omega];exact(hc b h.left).trans this
theorem zL {C : List az} : ∀ (m : Nat) (t : Tr), t.flat.length ≤ m → ∀ b : Nat, t.ok → ec C b (aE t b) → Path C b (b + t.sz) := by
  intro m
  induction m with
  | zero => intro t h; have := t.fN; omega
  | succ m ih =>
    rintro ⟨n, ks⟩ hm b hok h
    simp only [Tr.flat, List.length_cons] at hm
    simp only [Tr.ok] at hok
    have hcat : ∀ (ts : aW) (b : Nat), ts.flat.length ≤ m → ts.ok → ec C b (et ts b) → Path C b (b + ts.sz) := by
      intro ts
      induction ts using aW.rec (motive_1 := fun _ => True) with
      | mk => trivial
      | nil => intro b _ _ _; exact .refl _
      | cons t ts _ xW =>
        intro b h1 h2 h3
        simp only [aW.flat, List.length_append] at h1
        simp only [aW.ok] at h2
        simp only [et] at h3
        have h4 := h3.right
        rw [bK t b h2.1] at h4
        have h5 := xW (b + t.sz) (by omega) h2.2 h4
        simp only [aW.sz]
        rw [← Nat.add_assoc]
        exact (ih t (by omega) b h2.1 h3.left).trans h5
    obtain ⟨lS, j8⟩ := hok
    obtain ⟨_, hq⟩ := lS
    have gx := fun b => kN ks b j8
    simp only [aE] at h
    simp only [Tr.sz]
    have hz : ∀ s k, a_ n s k = if n.op = 2 ∨ n.op = 7 ∨ n.op = 8 then 1 else if n.op = 4 then s + 2 * (k - 1) else if n.op = 6 then s + 2 else if n.op = 5 then (if n.mx = -1 then n.mn.toNat * s + s + 2 else n.mn.toNat * s + (n.mx.toNat - n.mn.toNat) * (s + 1)) else s := fun s k => rfl
    rw [hz]
    by_cases q2 : n.op = 2
    · rw [if_pos q2] at h
      rw [if_pos (.inl q2)]
      exact Path.wR h.head (by show (1 : Int) ≠ 2 ∧ (1 : Int) ≠ 3 ∧ (1 : Int) ≠ 7; decide)
    rw [if_neg q2] at h
    by_cases q7 : n.op = 7
    · rw [if_pos q7] at h
      rw [if_pos (.inr (.inl q7))]
      exact Path.wR h.head (by show (5 : Int) ≠ 2 ∧ (5 : Int) ≠ 3 ∧ (5 : Int) ≠ 7; decide)
    rw [if_neg q7] at h
    by_cases q8 : n.op = 8
    · rw [if_pos q8] at h
      rw [if_pos (.inr (.inr q8))]
      exact Path.wR h.head (by show (6 : Int) ≠ 2 ∧ (6 : Int) ≠ 3 ∧ (6 : Int) ≠ 7; decide)
    rw [if_neg q8] at h
    rw [if_neg (by omega)]
    by_cases q3 : n.op = 3
    · rw [if_pos q3] at h
      rw [if_neg (by omega), if_neg (by omega), if_neg (by omega)]
      exact hcat ks b (by omega) j8 h
    rw [if_neg q3] at h
    by_cases q4 : n.op = 4
    · rw [if_pos q4] at h
      have Hm : a_ n ks.sz ks.len = ks.sz + 2 * (ks.len - 1) := by rw [hz, if_neg (by omega), if_pos q4]
      rw [Hm] at h
      rw [if_pos q4]
      cases ks with
      | nil => simp only [aW.len] at hq; omega
      | cons t ts =>
        simp only [aW.len] at hq
        simp only [aW.flat, List.length_append] at hm
        simp only [aW.ok] at j8
        simp only [di] at h
        rw [if_neg (by omega)] at h
        have h1 := (Path.sp h.head).1
        have h2 := ih t (by omega) (b + 1) j8.1 h.tail.left
        have h3 := h.tail.right
        rw [bK t _ j8.1] at h3
        exact h1.trans (h2.trans (Path.jp h3.head))
    rw [if_neg q4] at h
    rw [if_neg q4]
    by_cases q5 : n.op = 5
    · rw [if_pos q5] at h
      rw [if_neg (by omega), if_pos q5]
      unfold lx at h
      by_cases qx : n.mx = -1
      · rw [if_pos qx] at h ⊢
        have h1 := ly gx (fun b hb => hcat ks b (by omega) j8 hb) _ _ h.left
        have h2 := h.right
        rw [gK gx] at h2
        have h3 := (Path.sp h2.head).2
        rw [show b + (n.mn.toNat * ks.sz + ks.sz + 2) = b + n.mn.toNat * ks.sz + ks.sz + 2 by omega]
        exact h1.trans h3
      · rw [if_neg qx] at h ⊢
        have h1 := ly gx (fun b hb => hcat ks b (by omega) j8 hb) _ _ h.left
        have h2 := h.right
        rw [gK gx] at h2
        by_cases hd : n.mx.toNat - n.mn.toNat = 0
        · rw [hd, Nat.zero_mul, Nat.add_zero]; exact h1
        · obtain ⟨d, tg⟩ : ∃ d, n.mx.toNat - n.mn.toNat = d + 1 := ⟨n.mx.toNat - n.mn.toNat - 1, by omega⟩
          rw [tg] at h2 ⊢
          rw [dF] at h2
          have h3 := (Path.sp h2.head).2
          rw [← Nat.add_assoc]
          exact h1.trans h3
    rw [if_neg q5] at h
    by_cases q6 : n.op = 6
    · rw [if_pos q6] at h
      rw [if_pos q6]
      have h1 : Path C b (b + 1) := Path.wR h.head (by show (4 : Int) ≠ 2 ∧ (4 : Int) ≠ 3 ∧ (4 : Int) ≠ 7; decide)
      have h2 := hcat ks (b + 1) (by omega) j8 h.tail.left
      have h3 := h.tail.right
      rw [gx] at h3
      have h4 : Path C (b + 1 + ks.sz) (b + 1 + ks.sz + 1) := Path.wR h3.head (by show (4 : Int) ≠ 2 ∧ (4 : Int) ≠ 3 ∧ (4 : Int) ≠ 7; decide)
      rw [show b + (ks.sz + 2) = b + 1 + ks.sz + 1 by omega]
      exact h1.trans (h2.trans h4)
    · have wD : ks.len = 0 := by omega
      have := aW.len_nil wD
      subst this
      rw [if_neg q6, if_neg q5]
      exact .refl _
theorem wW {code:List az} {I:Nat→Prop} (hI:∀u i,I u→code[u]?=some i→∀v∈bA u i,I v.toNat):∀(f:Nat) (seen:List Bool) (dV:List Int),(∀v∈dV,I v.toNat)→(∀u:Nat,seen[u]?=some true→I u)→∀u:Nat,(wX code f seen dV)[u]?=some true→I u
 |0,seen,dV,_,h2,u,h=>h2 u h
 |f+1,seen,[],_,h2,u,h=>h2 u h
 |f+1,seen,v::dV,h1,h2,u,h=>by
  have hv:=h1 v (List.mem_cons_self ..);have hs:∀w∈dV,I w.toNat:=fun w hw=>h1 w (List.mem_cons_of_mem _ hw);unfold wX at h
  split at h
  ·split at h
   ·rename_i i hi;refine wW hI f _ _ (fun w hw=>?_) (fun w hw=>?_) u h
    ·rcases List.mem_append.1 hw with hw|hw
     ·exact hI _ i hv hi w (List.mem_reverse.1 hw)
     ·exact hs w hw
    ·by_cases he:v.toNat=w
     ·rw[←he];exact hv
     ·rw[List.getElem?_set_ne he] at hw;exact h2 w hw
   ·exact h2 u h
  ·exact wW hI f _ _ hs h2 u h
theorem yX {code:List az} {start:Int} (hcl:gm code) (fv:0≤start∧start<(code.length:Int)) {u v:Nat} (p:Path code u v):(a8 code start)[u]?=some true→(a8 code start)[v]?=some true:=by
 obtain⟨ha,_,_,_⟩:=kg hcl fv
 induction p with
 |refl=>exact id
 |@step u v w i h hn _ ih=>
  intro hu;refine ih ?_
  rcases ha u i hu h _ hn with hs|hs
  ·exact cB.2 hs
  ·cases hs
theorem tN {code:List az} {s:Nat} (hcl:gm code) (hs:s<code.length):(a8 code (s:Nat))[s]?=some true:=by
 obtain⟨_,_,_,hd⟩:=kg (start:=((s:Nat):Int)) hcl ⟨by omega,by omega⟩
 rcases hd with hd|hd
 ·exact cB.2 hd
 ·cases hd
mutual
theorem Tr.Ki:∀t:Tr,True
 | .mk _ _=>trivial
theorem aW.Ki:∀t:aW,True
 | .nil=>trivial
 | .cons _ _=>trivial
end
theorem As {n:Nod} {g:Int} (h:(dL n g).2=true) (h2:n.op=2):dM n.rs=true:=by
 unfold dL at h
 split at h
 ·cases h
 ·rw[if_neg (show¬(n.op=1∨n.op=7∨n.op=8) by omega)] at h;have h:(n.kids==0 &&dM n.rs)=true:=h;rw[Bool.and_eq_true] at h;exact h.2
theorem xV {l:List Nod} {h:Nat→Nat→Option (Nat×Nat)} (ih:∀at_ g r,h at_ g=some r→at_≤r.1∧∀j n,at_≤j→j<r.1→l[j]?=some n→n.op=2→dM n.rs=true):∀k at_ g r,gR h k at_ g=some r→at_≤r.1∧∀j n,at_≤j→j<r.1→l[j]?=some n→n.op=2→dM n.rs=true
 |0,at_,g,r,e=>by
  simp only[gR,Option.some.injEq] at e;subst e;exact⟨Nat.le_refl _,fun j n h1 h2=>by simp only at h2;omega⟩
 |k+1,at_,g,r,e=>by
  unfold gR at e
  cases hq:h at_ g with
  |none=>rw[hq] at e;cases e
  |some q=>
   rw[hq] at e;obtain⟨t1,t2⟩:=ih _ _ _ hq;obtain⟨u1,u2⟩:=xV ih k _ _ _ e;refine⟨Nat.le_trans t1 u1,fun j n h1 h2 hj ho=>?_⟩
   by_cases QN:j<q.1
   ·exact t2 j n h1 QN hj ho
   ·exact u2 j n (by omega) h2 hj ho
theorem AX {l:List Nod}:∀f at_ g r,fH l f at_ g=some r→at_≤r.1∧∀j n,at_≤j→j<r.1→l[j]?=some n→n.op=2→dM n.rs=true
 |0,_,_,_,e=>by simp[fH] at e
 |f+1,at_,g,r,e=>by
  unfold fH at e
  cases hn:l[at_]? with
  |none=>rw[hn] at e;cases e
  |some n=>
   rw[hn] at e;simp only at e
   split at e
   ·rename_i hs;obtain⟨u1,u2⟩:=xV (AX f) _ _ _ _ e;refine⟨by omega,fun j m h1 h2 hj ho=>?_⟩
    by_cases QP:j=at_
    ·subst QP;rw[hn] at hj;cases hj;exact As hs ho
    ·exact u2 j m (by omega) h2 hj ho
   ·cases e
theorem Ay {l:List Nod} (h:eG l=true):Cx l:=by
 unfold eG at h;simp only[Bool.and_eq_true] at h;obtain⟨_,h⟩:=h
 split at h
 ·rename_i r hr;rw[decide_eq_true_eq] at h;obtain⟨_,h2⟩:=AX _ _ _ _ hr;intro n hn ho;obtain⟨j,hj⟩:=List.getElem?_of_mem hn;exact h2 j n (Nat.zero_le _) (by rw[h];exact lt_get hj) hj ho
 ·cases h
structure Gl (n0 r0:Nat) (C:List az) (B:List Int) (k:Nat):Prop where
 bl:B.length=k
 fs:0<k→B[0]?=some ((n0:Nat):Int)
 el:∀j,j<k→∃(t:Tr) (b:Nat),t.ok∧Cx t.flat∧B[j]?=some (b:Int)∧n0≤b∧(∀b':Int,B[j+1]?=some b'→b'=((b+t.sz+3:Nat):Int))∧(j+1=k→n0+C.length=b+t.sz+3)∧∃pre post,C=pre++dj t b (r0+j)++post∧n0+pre.length=b
 al:∀i q,C[i]?=some q→∃j,j<k∧∃(t:Tr) (b:Nat),B[j]?=some (b:Int)∧t.ok∧Cx t.flat∧b≤n0+i∧n0+i<b+t.sz+3∧b+t.sz+3≤n0+C.length∧q∈dj t b (r0+j)∧(dj t b (r0+j))[n0+i-b]?=some q
theorem oY:∀(ls:List (List Nod)) (r:Nat) (c:List az) (s:List Int),(dr ls r c s).e=0→∃C B,(dr ls r c s).code=c++C∧(dr ls r c s).aq=s++B∧Gl c.length r C B ls.length
 |[],r,c,s,h=>by
  rw[w7];exact⟨[],[],by simp,by simp,rfl,fun h=>by simp at h,fun j hj=>by simp at hj,fun i q hi=>by simp at hi⟩
 |l::ls,r,c,s,h=>by
  rw[dr] at h⊢
  by_cases hr:eG l=false
  ·rw[if_pos hr] at h;cases h
  rw[if_neg hr] at h⊢;rw[Bool.not_eq_false] at hr
  by_cases hb:400<c.length+min (bR l).sz 401+3
  ·rw[if_pos hb] at h;cases h
  rw[if_neg hb] at h⊢;obtain⟨t1,t2⟩:=rI hr;have kB:Cx (bR l).flat:=by rw[t2];exact Ay hr
  have hlen:=jo (b:=c.length) (r:=r) t1;obtain⟨C,B,h1,h2,h3⟩:=oY ls (r+1) _ _ h;rw[List.length_append,hlen] at h3;refine⟨dj (bR l) c.length r++C,((c.length:Nat):Int)::B,by rw[h1,List.append_assoc],by rw[h2,List.append_assoc];rfl,by simp[h3.bl],fun _=>rfl,fun j hj=>?_,fun i q hi=>?_⟩
  ·cases j with
   |zero=>
    refine⟨bR l,c.length,t1,kB,rfl,Nat.le_refl _,fun b' cU=>?_,fun FM=>?_,[],C,by simp,by simp⟩
    ·simp only[Nat.zero_add,List.getElem?_cons_succ] at cU;have hB:=h3.bl;have hlt:=lt_get cU;rw[h3.fs (by omega)] at cU;cases cU
     congr 1
    ·simp only[List.length_cons] at FM;have DO:ls.length=0:=by omega
     have hC:C=[]:=by
      cases hc:C with
      |nil=>rfl
      |cons q C'=>
       obtain⟨j,hj,_⟩:=h3.al 0 q (by rw[hc];rfl);omega
     rw[hC,List.append_nil,hlen];omega
   |succ j=>
    simp only[List.length_cons] at hj;obtain⟨t,b,q1,q2,q3,q4,q5,q6,pre,post,q7,q8⟩:=h3.el j (by omega);refine⟨t,b,q1,q2,q3,by omega,q5,fun FM=>?_,dj (bR l) c.length r++pre,post,?_,?_⟩
    ·simp only[List.length_cons] at FM;have:=q6 (by omega);rw[List.length_append,hlen];omega
    ·rw[q7,show r+1+j=r+(j+1) by omega];simp only[List.append_assoc]
    ·rw[List.length_append,hlen];omega
  ·by_cases hil:i<(dj (bR l) c.length r).length
   ·rw[List.getElem?_append_left hil] at hi;refine⟨0,by simp,bR l,c.length,rfl,t1,kB,by omega,by omega,by rw[List.length_append,hlen];omega,List.mem_of_getElem? hi,?_⟩;rw[show c.length+i-c.length=i by omega];exact hi
   ·rw[List.getElem?_append_right (by omega)] at hi;obtain⟨j,q1,t,b,q2,q3,q4,q5,q6,q7,q8,q9⟩:=h3.al _ q hi;rw[hlen] at q5 q6 q9 hil;refine⟨j+1,by simp only[List.length_cons];omega,t,b,q2,q3,q4,by omega,by omega,by rw[List.length_append,hlen];omega,by rw[show r+(j+1)=r+1+j by omega];exact q8,?_⟩;rw[show r+(j+1)=r+1+j by omega,show c.length+i-b=c.length+((bR l).sz+3)+(i-((bR l).sz+3))-b by omega];exact q9
theorem zu {lo hi u:Nat} {i:az} (h:cp lo hi i) (h1:lo≤u+1) (h2:u+1≤hi):∀v∈bA u i,(lo:Int)≤v∧v≤hi:=by
 intro v hv;unfold bA at hv
 rcases h with⟨a,_⟩|⟨a,_,c,d⟩|⟨a,_,_,d⟩|⟨a,_⟩|⟨a,_⟩
 ·rw[if_neg (by omega),if_neg (by omega),if_neg (by omega)] at hv;simp only[List.mem_cons,List.not_mem_nil,or_false] at hv;omega
 ·rw[if_pos a] at hv;simp only[List.mem_cons,List.not_mem_nil,or_false] at hv
  rcases hv with rfl|rfl<;>omega
 ·rw[if_neg (by omega),if_pos a] at hv;simp only[List.mem_cons,List.not_mem_nil,or_false] at hv;omega
 ·rw[if_neg (by omega),if_neg (by omega),if_neg (by omega)] at hv;simp only[List.mem_cons,List.not_mem_nil,or_false] at hv;omega
 ·rw[if_neg (by omega),if_neg (by omega),if_neg (by omega)] at hv;simp only[List.mem_cons,List.not_mem_nil,or_false] at hv;omega
theorem uM {lo hi n ns pc:Nat} {i:az} (h:cp lo hi i) (h1:hi<n) (h2:pc+1<n):cw n ns pc i=true:=by
 have FN:∀v:Int,(lo:Int)≤v→v≤hi→oy v n=true:=fun v a b=>cT.2 ⟨by omega,by omega⟩;have hd:decide (((pc+1:Nat):Int)<n)=true:=by rw[decide_eq_true_eq];omega
 unfold cw
 rcases h with⟨a,b,c,d⟩|⟨a,b,c,d⟩|⟨a,b,c,d⟩|⟨a,b,c,d⟩|⟨a,b,c,d⟩
 ·rw[if_pos a,hd,b,c,d];rfl
 ·rw[if_neg (by omega),if_pos a,b,FN _ c.1 c.2,FN _ d.1 d.2];rfl
 ·rw[if_neg (by omega),if_neg (by omega),if_pos a,b,c,FN _ d.1 d.2];rfl
 ·rw[if_neg (by omega),if_neg (by omega),if_neg (by omega),if_pos a,b,c,hd,cT.2 ⟨d.1,d.2⟩];rfl
 ·rw[if_neg (by omega),if_neg (by omega),if_neg (by omega),if_neg (by omega),if_pos a,b,c,hd,d];rfl
theorem lv {t:Tr} {b r o:Nat} {q:az} (h1:t.ok) (h2:Cx t.flat) (h:(dj t b r)[o]?=some q):(o<t.sz+2∧cp b (b+t.sz+2) q)∨(o=t.sz+2∧q=cg 7 (r:Nat) 0 []):=by
 have hl:=bK t (b+1) h1;have hA:dj t b r=(cg 4 0 0 []::(aE t (b+1)++[cg 4 1 0 []]))++[cg 7 (r:Nat) 0 []]:=by unfold dj;simp
 have Ry:(cg 4 0 0 []::(aE t (b+1)++[cg 4 1 0 []])).length=t.sz+2:=by simp[hl]
 rw[hA] at h
 by_cases ho:o<t.sz+2
 ·rw[List.getElem?_append_left (by omega)] at h;refine .inl ⟨ho,?_⟩;have hm:=List.mem_of_getElem? h
  rcases List.mem_cons.1 hm with rfl|hm
  ·exact cp.save (by omega)
  ·rcases List.mem_append.1 hm with hm|hm
   ·exact(iz t (b+1) h1 h2 q hm).mono (by omega) (by omega)
   ·simp only[List.mem_cons,List.not_mem_nil,or_false] at hm;subst hm;exact cp.save (by omega)
 ·rw[List.getElem?_append_right (by omega),Ry] at h;have h0:=lt_get h;simp only[List.length_cons,List.length_nil] at h0;have qZ:o=t.sz+2:=by omega
  refine .inr ⟨qZ,?_⟩;rw[qZ,Nat.sub_self] at h;exact(Option.some.inj h).symm
structure Jo (p:Pg) (r s e:Nat):Prop where
 st:p.aq[r]?=some (s:Int)
 se:s<e
 el:e≤p.code.length
 nx:∀b':Int,p.aq[r+1]?=some b'→b'=(e:Int)
 la:r+1=p.aq.length→p.code.length=e
 mt:p.code[e-1]?=some (cg 7 (r:Nat) 0 [])
 fi:(nP p (r:Nat))[0]?=some (s:Int)
 lt:(nP p (r:Nat))[(nP p (r:Nat)).length-1]?=some ((e-1:Nat):Int)
theorem yQ {X:List Int} {a b:Int} (hp:X.Pairwise (·<·)) (ha:a∈X) (hb:b∈X) (h:∀v∈X,a≤v∧v≤b):X[0]?=some a∧X[X.length-1]?=some b:=by
 obtain⟨i,hi⟩:=List.getElem?_of_mem ha;obtain⟨j,hj⟩:=List.getElem?_of_mem hb;have hil:=lt_get hi;have iK:=lt_get hj
 have hlt:∀u v (x y:Int),u<v→X[u]?=some x→X[v]?=some y→x<y:=fun u v x y Ph hx hy=>by
  have:=List.pairwise_iff_getElem.1 hp u v (lt_get hx) (lt_get hy) Ph;have ex:X[u]'(lt_get hx)=x:=Option.some.inj ((List.getElem?_eq_getElem _).symm.trans hx);have ey:X[v]'(lt_get hy)=y:=Option.some.inj ((List.getElem?_eq_getElem _).symm.trans hy);rw[ex,ey] at this;exact this
 constructor
 ·obtain⟨x,hx⟩:∃x,X[0]?=some x:=⟨X[0]'(by omega),List.getElem?_eq_getElem _⟩
  have:=h x (List.mem_of_getElem? hx)
  by_cases h0:i=0
  ·rw[←h0];exact hi
  ·have:=hlt 0 i x a (by omega) hx hi;omega
 ·obtain⟨x,hx⟩:∃x,X[X.length-1]?=some x:=⟨X[X.length-1]'(by omega),List.getElem?_eq_getElem _⟩
  have:=h x (List.mem_of_getElem? hx)
  by_cases h0:j=X.length-1
  ·rw[←h0];exact hj
  ·have:=hlt j (X.length-1) b x (by omega) hj hx;omega
theorem wg {parts:List (List Nod)} (hl:parts.length≤8) (he:(compileS parts).e=0) (hcl:(compileS parts).code.length≤400):
  aR (pgV (compileS parts).code (compileS parts).aq)∧(compileS parts).aq.length=parts.length∧∀r,r<parts.length→∃s e,Jo (pgV (compileS parts).code (compileS parts).aq) r s e:=by
 have gy:compileS parts=dr parts 0 [] []:=by unfold compileS;rw[if_neg (by omega)]
 rw[gy] at he hcl⊢;obtain⟨C,B,h1,h2,h3⟩:=oY parts 0 [] [] he;simp only[List.nil_append] at h1 h2;simp only[List.length_nil] at h3;rw[h1] at hcl;rw[h1,h2];have JM:=h3.bl
 have hsh:∀pc i,C[pc]?=some i→cw C.length B.length pc i=true:=by
  intro pc i hi;obtain⟨j,q1,t,b,q2,q3,q4,q5,q6,q7,q8,q9⟩:=h3.al pc i hi;rw[Nat.zero_add] at q9
  rcases lv q3 q4 q9 with⟨g1,g2⟩|⟨g1,g2⟩
  ·exact uM g2 (by omega) (by omega)
  ·rw[g2];have:oy ((j:Nat):Int) B.length=true:=cT.2 ⟨by omega,by omega⟩;unfold cw cg;simp[this]
 have Iq:gm C:=lZ (p:=pgV C B) hsh
 have Bo:∀r,r<parts.length→∃s e:Nat,B[r]?=some (s:Int)∧s<e∧e≤C.length∧(∀b':Int,B[r+1]?=some b'→b'=(e:Int))∧(r+1=parts.length→C.length=e)∧C[e-1]?=some (cg 7 (r:Nat) 0 [])∧(∀u:Nat,(a8 C (s:Nat))[u]?=some true→s≤u∧u<e)∧(a8 C (s:Nat))[s]?=some true∧(a8 C (s:Nat))[e-1]?=some true∧∀u i,s≤u→u<e→C[u]?=some i→i.op=7→i.x=(r:Int):=by
  intro r hr;obtain⟨t,b,q1,q2,q3,q4,q5,q6,pre,post,q7,q8⟩:=h3.el r hr;rw[Nat.zero_add] at q6 q8;rw[Nat.zero_add] at q7;have px:=jo (b:=b) (r:=r) q1;have GK:C.length=b+(t.sz+3)+post.length:=by rw[q7,List.length_append,List.length_append,px,q8]
  have gf:∀u,b≤u→u<b+t.sz+3→C[u]?=(dj t b r)[u-b]?:=fun u g1 g2=>by
   rw[q7,List.append_assoc,List.getElem?_append_right (by omega),q8,List.getElem?_append_left (by omega)]
  have iq:ec C b (dj t b r):=⟨post,by rw[q7,List.append_assoc,←q8,List.drop_left]⟩
  have FN:∀u:Nat,(a8 C (b:Nat))[u]?=some true→b≤u∧u<b+t.sz+3:=by
   unfold a8;refine wW (I:=fun u=>b≤u∧u<b+t.sz+3) (fun u i hu hi v hv=>?_) _ _ _ (fun v hv=>?_) (fun u hu=>?_)
   ·rw[gf u hu.1 hu.2] at hi
    rcases lv q1 q2 hi with⟨g1,g2⟩|⟨g1,g2⟩
    ·have:=zu (u:=u) g2 (by omega) (by omega) v hv;omega
    ·rw[g2] at hv;have:bA u (cg 7 (r:Nat) 0 [])=[]:=by unfold bA cg;simp
     rw[this] at hv;cases hv
   ·simp only[List.mem_cons,List.not_mem_nil,or_false] at hv;subst hv;rw[Int.toNat_natCast];omega
   ·rw[List.getElem?_replicate] at hu
    split at hu<;>cases hu
  have hs:=tN (s:=b) Iq (by omega)
  have Qc:C[b+t.sz+3-1]?=some (cg 7 (r:Nat) 0 []):=by
   rw[gf _ (by omega) (by omega)];unfold dj;have sN:=bK t (b+1) q1;rw[show b+t.sz+3-1-b=(t.sz+1)+1 by omega,List.getElem?_cons_succ,List.getElem?_append_right (by omega),sN,show t.sz+1-t.sz=1 by omega]
   rfl
  have HE:Path C b (b+t.sz+3-1):=by
   unfold dj at iq;have p1:Path C b (b+1):=Path.wR iq.head (by show(4:Int)≠2∧(4:Int)≠3∧(4:Int)≠7;decide);have p2:=zL (C:=C) _ t (Nat.le_refl _) (b+1) q1 iq.tail.left;have h4:=iq.tail.right;rw[bK t _ q1] at h4;have p3:Path C (b+1+t.sz) (b+1+t.sz+1):=Path.wR h4.head (by show(4:Int)≠2∧(4:Int)≠3∧(4:Int)≠7;decide);rw[show b+t.sz+3-1=b+1+t.sz+1 by omega];exact p1.trans (p2.trans p3)
  refine⟨b,b+t.sz+3,q3,by omega,by omega,fun b' cU=>q5 b' cU,q6,Qc,FN,hs,yX Iq ⟨by omega,by omega⟩ HE hs,fun u i g1 g2 hi ho=>?_⟩;rw[gf u g1 g2] at hi
  rcases lv q1 q2 hi with⟨_,g3⟩|⟨_,g3⟩
  ·rcases g3 with⟨a,_⟩|⟨a,_⟩|⟨a,_⟩|⟨a,_⟩|⟨a,_⟩<;>omega
  ·rw[g3];rfl
 have hR:aR (pgV C B):=by
  refine⟨hcl,by show B.length≤8;omega,hsh,fun v hv=>?_,fun r s hs pc i Bt Hw hi ho=>?_⟩
  ·obtain⟨r,hr⟩:=List.getElem?_of_mem (show v∈B from hv);obtain⟨s,e,g1,g2,g3,_⟩:=Bo r (by rw[←JM];exact lt_get hr);rw[g1] at hr;cases hr;show(0:Int)≤(s:Int)∧(s:Int)<(C.length:Int);omega
  ·have hs:B[r]?=some s:=hs;obtain⟨s',e,g1,g2,g3,g4,g5,g6,g7,g8,g9,g10⟩:=Bo r (by rw[←JM];exact lt_get hs);rw[g1] at hs;cases hs;obtain⟨k1,k2⟩:=g7 pc Hw;exact g10 pc i k1 k2 hi ho
 refine⟨hR,by rw[JM],fun r hr=>?_⟩;obtain⟨s,e,g1,g2,g3,g4,g5,g6,g7,g8,g9,g10⟩:=Bo r hr
 have NL:nP (pgV C B) (r:Nat)=nW 0 (a8 C (s:Nat)):=by
  unfold nP;have hi:oy ((r:Nat):Int) (pgV C B).aq.length=true:=cT.2 ⟨by omega,by show((r:Nat):Int)<(B.length:Nat);omega⟩;rw[cV hR,hi]
  have GG:(pgV C B).aq.getD ((r:Nat):Int).toNat 0=(s:Int):=by
   rw[Int.toNat_natCast,List.getD_eq_getElem?_getD];show(B[r]?).getD 0=_;rw[g1];rfl
  rw[GG];rfl
 have EA:=yQ (pS (a8 C (s:Nat)) 0) (a:=(s:Int)) (b:=((e-1:Nat):Int)) (gN.2 ⟨s,g8,by rw[Nat.zero_add]⟩) (gN.2 ⟨e-1,g9,by rw[Nat.zero_add]⟩) (fun v hv=>by
  obtain⟨k,k1,k2⟩:=gN.1 hv;have:=g7 k k1
  omega)
 exact⟨s,e,g1,g2,g3,fun b' cU=>g4 b' cU,fun hr1=>g5 (by rw[←JM];exact hr1),g6,by rw[NL];exact EA.1,by rw[NL];exact EA.2⟩
def jW (fr:Go.V.Fr) (k:Nat):Go.V.D:=Go.V.nth .junk fr.loc k
theorem rq:∀(ls:List (List Nod)) (r:Nat) (c:List az) (s:List Int),(dr ls r c s).e≠0→(dr ls r c s).code=[]∧(dr ls r c s).aq=[]
 |[],r,c,s,h=>by rw[lX] at h;exact absurd rfl h
 |l::ls,r,c,s,h=>by
  rw[dr] at h⊢
  split
  ·exact⟨rfl,rfl⟩
  ·rename_i h1;rw[if_neg h1] at h
   split
   ·exact⟨rfl,rfl⟩
   ·rename_i h2;rw[if_neg h2] at h;exact rq ls _ _ _ h
theorem mG {ls:List (List Nod)} (h:(compileS ls).e≠0):(compileS ls).code=[]∧(compileS ls).aq=[]:=by
 unfold compileS at h⊢
 split
 ·exact⟨rfl,rfl⟩
 ·rename_i h1;rw[if_neg h1] at h;exact rq _ _ _ _ h
theorem vM:aR (pgV [] []):=⟨by simp[pgV],by simp[pgV],fun pc i h=>by simp[pgV] at h,fun v h=>by simp[pgV] at h,fun r s h=>by simp[pgV] at h⟩
theorem pC {ls:List (List Nod)} (hl:ls.length≤8) (hcl:(compileS ls).code.length≤400):aR (pgV (compileS ls).code (compileS ls).aq):=by
 by_cases he:(compileS ls).e=0
 ·exact(wg hl he hcl).1
 ·rw[(mG he).1,(mG he).2];exact vM
theorem wh {s0:St} {x:D} {ps:List (List UInt8)} (hx:V.Rows s0 1 x (ps.map strC)) (hl:ps.length≤1048576) (hb:∀b∈ps,b.length≤1048576):∃d,Ev pv 12 [x] s0 d s0∧∃(ls:List (List Nod)) (R:pe),compileS ls=R∧ls.length≤8∧R.code.length≤400∧d=.tup [(pgV R.code R.aq).d,.bool (R.e==0)]∧(pgV R.code R.aq).ok:=by
 refine Ev.CC rfl MN rfl rfl rfl ?_;refine zE ?_;obtain⟨hSb,hF,hH⟩:=ri s0;generalize enterSt .ro s0=S at*;have hx:=Arg.of hx hSb;refine zQ 2 ?_;refine qa hH fun k2 st hk2 hH=>?_;refine zQ 11 ?_;have hH:Has s0.bs.length S st (.lst .nul 1 (([]:List (List Nod)).map partC)::.box k2 (.mem 0 false [.nul,.nul])::[]):=hH.nulE 1;refine zQ 1 ?_;refine EvC.loop (fun mm fr st=>∃(i:Nat) (ld:D) (parts:List (List Nod)),fr.clean=⟨11,[x,jW fr 1,.ptr k2 0 0,.bool false,ld,.int .i64 (i:Nat),jW fr 6,jW fr 7,jW fr 8,jW fr 9,jW fr 10],[]⟩∧Has s0.bs.length S st [.lst ld 1 (parts.map partC),.box k2 (.mem 0 false [.nul,.nul])]∧(i+mm=8)∧(∀l∈parts,(∀n∈l,NdV n)∧l.length≤500)∧(parts.length≤i)) (8) ?_ ?_
 ·exact⟨0,.nul,[],rfl,hH,by omega,fun l hl=>(by cases hl),by simp⟩
 rintro mm fr st ⟨i,ld,parts,hfr,hH,hi,hp,hpl⟩;rw[hfr];clear hfr;generalize jW fr=ee;clear fr;refine zQ 2 ?_;refine EvC.cutT 19 (.bool (decide (((i:Nat):Int)<((ps.length:Nat):Int)) &&decide (((i:Nat):Int)<8))) [] ?_ (fun ff tmp htmp=>?_)
 ·refine zQ 2 ?_;refine qn ?_;simp only[List.length_map];refine zQ 2 ?_;refine EvO.two 16 rfl (fun hg4=>?_) (fun hg4=>?_)
  ·refine zQ 3 ?_;refine EvO.nil (leafT ?_ ?_)
   ·dsimp only[setW,List.foldl,nth,u2,u1]
    all_goals(first|rfl|simp)
   ·refine zF ?_
    all_goals(simp_all;done)
  ·refine zQ 3 ?_;refine EvO.nil (leafT ?_ ?_)
   ·dsimp only[setW,List.foldl,nth,u2,u1]
    all_goals(first|rfl|simp)
   ·refine zF ?_
    all_goals(simp_all;omega)
 refine zG ?_
 by_cases hlt:i<ps.length∧i<8
 ·obtain⟨b,hbb⟩:∃b,ps[i]?=some b:=⟨ps[i]'hlt.1,List.getElem?_eq_getElem _⟩
  have hr1:=str_get hbb;have hbl:=hb b (List.mem_of_getElem? hbb);have x_:(decide (((i:Nat):Int)<((ps.length:Nat):Int)) &&decide (((i:Nat):Int)<8))=true:=by rw[Bool.and_eq_true,decide_eq_true_eq,decide_eq_true_eq];omega
  rw[x_] at htmp;refine zQ 4 ?_;obtain⟨_,hev,l,e,w,rfl,hv,hll⟩:=AL (s0:=st) hbl;refine zQ 4 ?_;refine qr fun Gu zj=>?_;refine qR ?_;refine qv (hev) ?_;refine zQ 13 ?_;refine zI (fun he=>?_) fun he=>?_
  ·refine zQ 3 ?_;refine qh (s:=1) (vs:=[_]) hH fun k35 st QD hH=>?_;refine EvO.happend (s:=1) hH rfl (ev rfl) (ev rfl) (by exact at1) (by exact hH.rows (by exact at0)) rfl rfl rfl rfl rfl rfl rfl ⟨(Nat.le_of_ble_eq_true rfl),(Nat.le_of_ble_eq_true rfl)⟩ (fun _=>(put_T rfl _)) (by simp only[List.length_cons,List.length_nil,List.length_map]<;>omega) (by exact .inl hF) (fun Ow st hH=>?_);dsimp only[u2,u1,u3,u4,setMany,u5,u6,D.cells,Nat.reduceAdd,partC,compD,Pg.d,Pg.cs,pgV] at hH;refine zQ 2 ?_;have hH:=hH.drop 1;refine zQ 5 ?_;refine⟨mm-1,by omega,⟨i+1,Ow,parts++[l],rfl,(by rw[List.map_append];exact hH),by omega,?_,by rw[List.length_append];simp only[List.length_cons,List.length_nil];omega⟩⟩;intro l' hl'
   rcases List.mem_append.1 hl' with hl'|hl'
   ·exact hp l' hl'
   ·simp only[List.mem_cons,List.not_mem_nil,or_false] at hl';subst hl';exact⟨hv,hll⟩
  ·refine zQ 6 ?_;exact⟨mm-1,by omega,⟨i+1,ld,parts,rfl,hH,by omega,hp,by omega⟩⟩
 ·have x_:(decide (((i:Nat):Int)<((ps.length:Nat):Int)) &&decide (((i:Nat):Int)<8))=false:=by
   rw[Bool.and_eq_false_iff,decide_eq_false_iff_not,decide_eq_false_iff_not];omega
  rw[x_] at htmp;refine zQ 2 ?_;obtain⟨hev,hok,hlen⟩:=comp_parts hp (by omega) (hH.rows at0);generalize Rh:compileS parts=R at*;refine zQ 3 ?_;refine qv (hev) ?_;refine zQ 4 ?_;refine qa hH fun k9 st Qn hH=>?_;refine qS hH at0 fun st hH=>?_;dsimp only[u2,u1,u3,u4,setMany,u5,u6,D.cells,Nat.reduceAdd,partC,compD,Pg.d,Pg.cs,pgV] at hH;refine zQ 5 ?_;refine EvO.hloadS (m:=2) hH rfl (ev rfl) (by exact at0) (by dsimp only[List.drop_succ_cons,List.drop_zero,List.take_succ_cons,List.take_zero,partC,compD,Pg.d,Pg.cs,pgV]<;>rfl) rfl rfl (put_T rfl _) ?_;refine zQ 2 ?_;refine qS hH at2 fun st hH=>?_;dsimp only[u2,u1,u3,u4,setMany,u5,u6,D.cells,Nat.reduceAdd,partC,compD,Pg.d,Pg.cs,pgV] at hH;refine zQ 2 ?_;refine EvC.ret ⟨rx,_,_,hH.nL rfl at2 rfl rfl,rl hSb hH (show _=some (D.tup [(pgV R.code R.aq).d,.bool (R.e==0)]) from rfl),⟨parts,R,Rh,by omega,hlen,rfl,hok⟩⟩
theorem y_ {s0:St} {x:D} {ps:List (List UInt8)} (hx:V.Rows s0 1 x (ps.map strC)) (hl:ps.length≤1048576) (hb:∀b∈ps,b.length≤1048576):∃d,Ev pv 12 [x] s0 d s0∧∃(p:Pg) (ok:Bool),d=.tup [p.d,.bool ok]∧p.ok∧aR p:=by
 obtain⟨d,hev,ls,R,rfl,Ll,hcl,rfl,hok⟩:=wh (s0:=s0) hx hl hb;exact⟨_,hev,_,_,rfl,hok,pC Ll hcl⟩
end Go.Proofs.YtnleclohocdkaaaGreat
namespace Go.V
variable{N:Nat} {S st:St} {H:List aN}
theorem Has.g_ (A B:List aN) (h:Has N S st (A++(B++H))):Has N S st (B++(A++H)):=by
 refine h.sub (fun i=>if i<B.length then i+A.length else if i<B.length+A.length then i-B.length else i) (fun a b e=>?_) fun i e hi=>?_
 ·have e':(if a<B.length then a+A.length else if a<B.length+A.length then a-B.length else a)=(if b<B.length then b+A.length else if b<B.length+A.length then b-B.length else b):=e
  repeat' split at e'
  all_goals omega
 ·show(A++(B++H))[if i<B.length then i+A.length else if i<B.length+A.length then i-B.length else i]?=some e
  by_cases h1:i<B.length
  ·rw[if_pos h1,List.getElem?_append_right (by omega),Nat.add_sub_cancel,List.getElem?_append_left h1]
   rwa [List.getElem?_append_left h1] at hi
  ·rw[List.getElem?_append_right (by omega)] at hi
   by_cases h2:i<B.length+A.length
   ·rw[if_neg h1,if_pos h2,List.getElem?_append_left (by omega)]
    rwa [List.getElem?_append_left (by omega)] at hi
   ·rw[if_neg h1,if_neg h2,List.getElem?_append_right (by omega),List.getElem?_append_right (by omega)];rw[List.getElem?_append_right (by omega)] at hi;rw[←hi];congr 1;omega
theorem Has.dg {j:Nat} {e:aN} (h:Has N S st (e::H)) (hj:j<H.length):Has N S st (H.set j e):=
 Has.back (h.erase (j+1)) hj
theorem Has.uz {j k:Nat} {e:aN} (h:Has N S st H) (hj:H[j]?=some e) (hk:e.K k):k+1≤st.bs.length:=((h.ok j e hj).2 k hk).2
theorem gV {x y:Oper} {fi fj:Fr} {si pq sj Ej:St} {a:Operand} {k au off v:Nat} {ar:Bool} {c:List D} (hy:fc y.op=none) (hx:fc x.op=some a) (ha:fi.ev a=.ptr k au off) (h1:sj.bs[k]?=some (.mem v ar c)) (h2:Ej.bs[k]?=some (.mem v ar c)) (h3:si.bs[k]?=some (.mem v ar c)) (hr:refs c≤si.bs.length):ie x fi si pq y fj sj Ej=true:=by
 unfold ie;simp only[hy,hx,ha,D.kP,Bool.and_eq_true];refine⟨pI h1 h2,?_⟩;unfold jP;simp only[h3]
 split
 ·rfl
 ·simpa using hr
theorem Has.clear {P:Pv} {j:Nat} {x:D} {s:Nat} {es:List (List D)} {t e:TypeId} {z:List D} (h:Has N S st H) (hj:H[j]?=some (.lst x s es)) (ht:P.bG t=some (.slice e)) (hz:cu P e=some z) (jz:z.length=s) (hr:refs z=0):
  ∃ae,jg P [t] x st=some (.tup [],ae)∧Has N S ae (H.set j (.lst x s (List.replicate es.length z))):=by
 have wD:=(h.ok j _ hj).2;have hown:=h.own hj
 have iK:j<H.length:=by
  rcases Nat.lt_or_ge j H.length with h'|h'
  ·exact h'
  ·rw[List.getElem?_eq_none h'] at hj;cases hj
 cases hown with
 |nul=>
  refine⟨st,by simp only[jg,ht],?_⟩
  have:H.set j (.lst .nul s (List.replicate ([]:List (List D)).length z))=H:=by
   refine List.ext_getElem? fun i=>?_
   by_cases hi:i=j
   ·subst hi;rw[List.getElem?_set_self iK,hj];rfl
   ·rw[List.getElem?_set_ne (fun e=>hi e.symm)]
  rw[this];exact h
 |win k au off es c hm hle hc he=>
  have hk:=wD k (by simp only[aN.lst,D.ref])
  have Es:∀n,refs (Go.V.dg n z)=0:=by
   intro n;unfold Go.V.dg
   induction n with
   |zero=>rfl
   |succ n ih=>
    rw[List.replicate_succ,List.flatten_cons]
    have DU:∀(a b:List D),refs a=0→refs b=0→refs (a++b)=0:=by
     intro a
     induction a with
     |nil=>intro b _ hb;exact hb
     |cons d a CD=>
      intro b ha hb;simp only[refs,List.cons_append] at ha⊢;have:=CD b (by omega) hb;omega
    exact DU _ _ hr ih
  have vu:(Go.V.dg es.length z).length=es.length*s:=by
   unfold Go.V.dg;rw[bT (s:=s) (fun e he=>by rw[(List.mem_replicate.1 he).2];exact jz),List.length_replicate]
  have hw:st.wr k au off (Go.V.dg es.length z)=some ⟨st.bs.set k (.mem au true (c.take off++Go.V.dg es.length z++c.drop (off+(Go.V.dg es.length z).length))),st.flr,st.ro⟩:=jN hm (by omega) (eU h hk.1 (.inr (Es _)));refine⟨_,by simp only[jg,ht,hz,Option.bind_some];rw[if_pos jz,hw];rfl,?_⟩;refine h.yC hj (fun n hn hne=>?_) (by simp) rfl rfl ?_ (fun n hn=>.inl hn) fun n hn=>?_
  ·simp only;rw[List.getElem?_set_ne (fun e=>hne (by simp only[aN.lst,D.ref];omega))]
  ·have Bz:∀e'∈List.replicate es.length z,e'.length=s:=fun e' mP=>by rw[(List.mem_replicate.1 mP).2];exact jz
   have:=e6.win (st:=⟨st.bs.set k (.mem au true (c.take off++Go.V.dg es.length z++c.drop (off+(Go.V.dg es.length z).length))),st.flr,st.ro⟩) (s:=s) k au off (List.replicate es.length z) (c.take off++Go.V.dg es.length z++c.drop (off+(Go.V.dg es.length z).length))
    (by simp only;rw[List.getElem?_set_self hk.2]) (by rw[List.length_replicate];simp;omega) ?_ Bz
   ·rw[List.length_replicate] at this;exact this
   ·rw[List.length_replicate,List.append_assoc,List.drop_append_of_le_length (by simp;omega),List.drop_take,Nat.sub_self,List.take_zero,List.nil_append,←vu,List.take_left']
    ·rfl
    ·rfl
  ·simp only[aN.lst,D.ref] at hn;have:n=k:=by omega
   subst this
   simpa using hk.2
variable{P:Pv} {ops:Array Oper} {rest:List Oper} {fr ax:Fr} {Q:Fr→St→Prop} {ty:TypeId} {pp:String} {a:Array Edge} {g:Option (Nat×Bool)} {dst:Nat}
theorem EvO.EX {j:Nat} {x:D} {s:Nat} {es:List (List D)} {t e:TypeId} {z:List D} {xo:Operand} (hH:Has N S st H) (hg:av ops fr ⟨none,.call ⟨.builtin .clear,#[xo],#[t]⟩,ty,pp,a,g⟩=some true) (hx:fr.ev xo=x) (hj:H[j]?=some (.lst x s es)) (ht:P.bG t=some (.slice e)) (hz:cu P e=some z) (jz:z.length=s) (hr:refs z=0)
  (h:∀ae,Has N S ae (H.set j (.lst x s (List.replicate es.length z)))→EvO P ops rest fr ae Q):EvO P ops (⟨none,.call ⟨.builtin .clear,#[xo],#[t]⟩,ty,pp,a,g⟩::rest) fr st Q:=by
 obtain⟨ae,h1,h2⟩:=hH.clear hj ht hz jz hr;refine EvO.N hg rfl (d:=.tup []) (st1:=ae) ?_ (h _ h2);simp only[cF,List.map_cons,List.map_nil,hx,aS,List.toList_toArray];exact h1
theorem nH {st:St} {s:Nat} {x:D} {es:List (List D)} (h:V.Rows st s x es):x.cells?=some [x]:=by cases h<;>rfl
end Go.V
namespace Go.Proofs.YtnleclohocdkaaaGreat
open Go.V Go
def eA (n:Nat):List D:=[.int .i64 (n:Nat)]
def kY (n:Nat):List D:=[.int .i64 (n:Nat),.bool true]
theorem ua {l:List Nat} {i q:Nat} (h:l[i]?=some q):(l.map eA)[i]?=some (eA q):=by rw[List.getElem?_map,h];rfl
theorem Dp {l:List Nat} {i q:Nat} (h:l[i]?=some q):(l.map kY)[i]?=some (kY q):=by rw[List.getElem?_map,h];rfl
structure cj (P Q:List Nat) (seen:List Bool):Prop where
 len:P.length=seen.length
 mem:∀(i p:Nat),P[i]?=some p→seen[i]?=some (decide (Q[p]?=some i))
 cnt:Q.length=seen.count true
 small:seen.length≤4096
def Cq (N:Nat) (S st:St) (ks:Nat) (seen:List Bool) (H:List aN):Prop:=
 ∃pd qd P Q,Has N S st (.box ks (.mem 0 false [pd,qd])::.lst pd 1 (P.map eA)::.lst qd 2 (Q.map kY)::H)∧cj P Q seen
theorem cj.get {P Q:List Nat} {seen:List Bool} (h:cj P Q seen) {i:Nat} {b:Bool} (hi:seen[i]?=some b):∃p,P[i]?=some p∧b=decide (Q[p]?=some i):=by
 have hl:=lt_get hi;have oD:=h.len;refine⟨P[i]'(by omega),List.getElem?_eq_getElem _,?_⟩;have:=h.mem i _ (List.getElem?_eq_getElem (by omega));rw[hi] at this;exact Option.some.inj this
theorem cj.add {P Q:List Nat} {seen:List Bool} (h:cj P Q seen) {i:Nat} (hi:seen[i]?=some false):cj (P.set i Q.length) (Q++[i]) (seen.set i true):=by
 have hl:=lt_get hi;have oD:=h.len;refine⟨by simp[oD],fun j p hj=>?_,?_,by rw[List.length_set];exact h.small⟩
 ·by_cases hij:j=i
  ·subst hij;rw[List.getElem?_set_self (by omega)] at hj⊢;cases hj;simp
  ·rw[List.getElem?_set_ne (fun e=>hij e.symm)] at hj⊢;rw[h.mem j p hj]
   congr 2
   rcases Nat.lt_trichotomy p Q.length with hp|hp|hp
   ·rw[List.getElem?_append_left hp]
   ·subst hp;have hne:¬i=j:=fun e=>hij e.symm;simp[hne]
   ·rw[List.getElem?_eq_none (by omega),List.getElem?_eq_none (by simp;omega)]
 ·have h1:=List.length_eq_countP_add_countP (fun b=>b==true) (l:=seen);have h2:=List.length_eq_countP_add_countP (fun b=>b==true) (l:=seen.set i true);have h3:=count_set hi
  have e1:∀l:List Bool,l.countP (fun a=>decide (¬(a==true)=true))=l.count false:=by
   intro l;unfold List.count;congr 1;funext b;cases b<;>rfl
  have e2:∀l:List Bool,l.countP (fun a=>a==true)=l.count true:=fun l=>rfl;rw[e1,e2] at h1 h2;rw[List.length_append,h.cnt];simp only[List.length_set,List.length_cons,List.length_nil] at h2⊢;omega
theorem cj.clear {P Q:List Nat} {seen:List Bool} (h:cj P Q seen):cj P [] (List.replicate seen.length false):=by
 refine⟨by rw[List.length_replicate];exact h.len,fun i p hi=>?_,?_,by rw[List.length_replicate];exact h.small⟩
 ·have:=lt_get hi;have:=h.len;rw[List.getElem?_replicate,if_pos (by omega)];simp
 ·rw[List.count_replicate];simp
theorem cj.iZ {P Q:List Nat} {seen:List Bool} (h:cj P Q seen):Q.length≤4096:=by
 have:=h.cnt;have:=h.small;have:=List.count_le_length (a:=true) (l:=seen);omega
theorem yJ {N ks:Nat} {S s0:St} {H:List aN} {seen:List Bool} {i:Nat} {b:Bool} (hi:seen[i]?=some b) {pd qd:D} {P Q:List Nat} (hok:cj P Q seen) (hH:Has N S s0 (.box ks (.mem 0 false [pd,qd])::.lst pd 1 (P.map eA)::.lst qd 2 (Q.map kY)::H)):
  ∃r ae,Ev pv 122 [.ptr ks 0 0,.int .i64 (i:Nat)] s0 r ae∧r=.bool b∧ae=s0:=by
 obtain⟨p,hp,rfl⟩:=hok.get hi;have hl:=lt_get hp;have oD:=hok.len;have Pu:=hok.small;have hr1:=ua hp
 have eO:(⟨(enterSt .rw s0).bs.take s0.bs.length,s0.flr,s0.ro⟩:St)=s0:=by
  show(⟨s0.bs.take s0.bs.length,s0.flr,s0.ro⟩:St)=s0;rw[List.take_length]
 refine Ev.iB rfl I8 rfl rfl rfl ?_;refine zE ?_;have bM:=hH;have hH:=hH.bO;have bL:(enterSt .rw s0).bs=s0.bs:=rfl;generalize enterSt .rw s0=S2 at*;refine zQ 4 ?_;have bU:decide (((i:Nat):Int)<0)=false:=by rw[decide_eq_false];omega
 refine zQ 2 ?_;refine EvC.cutT 16 (.bool false) [] ?_ (fun ff tmp htmp=>?_)
 ·refine zQ 8 ?_;refine qn ?_ (hR:=hH.rows at1) (hg:=wi bU);simp only[List.length_map];refine zQ 2 ?_;refine EvO.nil (leafT ?_ ?_)
  ·dsimp only[setW,List.foldl,nth,u2,u1]
   all_goals(first|rfl|simp)
  ·refine zF ?_
   all_goals(simp_all;done)
 dsimp only[setW,List.foldl,nth,u2,u1];refine zQ 9 ?_;refine qi hH at1 fun J3 Fw=>?_;refine zQ 3 ?_
 by_cases hq:p<Q.length
 ·obtain⟨q,HD⟩:∃q,Q[p]?=some q:=⟨Q[p]'hq,List.getElem?_eq_getElem _⟩
  have mN:=Dp HD;have GH:decide (((p:Nat):Int)<((Q.length:Nat):Int))=true:=by rw[decide_eq_true_eq];omega
  refine zQ 7 ?_;refine qn ?_ (hR:=hH.rows at2);simp only[List.length_map];refine zQ 7 ?_;refine qi hH at2 (fun J0 Ft=>?_) (hg:=wi GH);refine EvO.cS (fo:=0) (m:=0) (o2:=0) (wantD_is rfl rfl rfl GH) (ev rfl) (by assumption) rfl rfl rfl (fun _=>(put_T rfl _)) (fun OY K8=>?_);refine zQ 6 ?_;refine EvC.ret ⟨rx,_,_,_,rfl,af (rfl),?_⟩;refine⟨?_,eO⟩
  have hd:(((q:Nat):Int)==((i:Nat):Int))=decide (Q[p]?=some i):=by
   rw[HD]
   by_cases h:q=i
   ·simp[h]
   ·simp[h];omega
  exact congrArg D.bool hd
 ·have GH:decide (((p:Nat):Int)<((Q.length:Nat):Int))=false:=by rw[decide_eq_false];omega
  refine zQ 7 ?_;refine qn ?_ (hR:=hH.rows at2);simp only[List.length_map];refine zQ 15 ?_;refine EvC.ret ⟨rx,_,_,_,rfl,af (rfl),?_⟩;refine⟨?_,eO⟩;rw[List.getElem?_eq_none (by omega)];rfl
theorem yK {N ks:Nat} {S s0:St} {H:List aN} {seen:List Bool} {i:Nat} {b:Bool} (hF:S.flr≤N) (hi:seen[i]?=some b) (hH:Cq N S s0 ks seen H):
  ∃r ae,Ev pv 104 [.ptr ks 0 0,.int .i64 (i:Nat),.bool true] s0 r ae∧r=.bool (!b)∧Cq N S ae ks (seen.set i true) H:=by
 obtain⟨pd,qd,P,Q,hH,hok⟩:=hH;have hl:=lt_get hi;have oD:=hok.len;have Pu:=hok.small;have DC:=hok.iZ;obtain⟨p0,P8,_⟩:=hok.get hi;have hr1:=ua P8;refine Ev.iB rfl Je rfl rfl rfl ?_;refine zE ?_;change EvC _ _ _ _ s0 _;refine zQ 4 ?_;have bU:decide (((i:Nat):Int)<0)=false:=by rw[decide_eq_false];omega
 have bX:decide (((i:Nat):Int)≥((P.length:Nat):Int))=false:=by rw[decide_eq_false];omega
 obtain⟨_,st,hev,rfl,rfl⟩:=yJ hi hok hH;refine zQ 2 ?_;refine EvC.cutT 22 (.bool b) [] ?_ (fun ff tmp htmp=>?_)
 ·refine zQ 8 ?_;refine qn ?_ (hR:=hH.rows at1) (hg:=wi bU);simp only[List.length_map];refine zQ 5 ?_;refine qv hev ?_ (hg:=wi bX);refine zQ 1 ?_;refine EvO.nil (leafT ?_ ?_)
  ·dsimp only[setW,List.foldl,nth,u2,u1]
   all_goals(first|rfl|simp)
  ·dsimp only[Fr.putO,Fr.put,Fr.clean,Fr.ev,Fr.get,nth,look,u1,u2,v1,v2,v4]
   all_goals(first|rfl|(simp[bU,bX];done)|(simp_all;done)|(simp[bU,bX];omega)|(simp_all;omega))
 dsimp only[setW,List.foldl,nth,u2,u1]
 cases b with
 |true=>
  refine zQ 5 ?_;refine EvC.ret ⟨rx,_,_,_,rfl,rfl,?_⟩;refine⟨rfl,pd,qd,P,Q,hH,?_⟩
  have:seen.set i true=seen:=by
   refine List.ext_getElem? fun j=>?_
   by_cases hj:j=i
   ·subst hj;rw[List.getElem?_set_self hl,hi]
   ·rw[List.getElem?_set_ne (fun e=>hj e.symm)]
  rw[this];exact hok
 |false=>
  refine zQ 13 ?_;refine qn ?_ (hR:=hH.rows at2);simp only[List.length_map];refine qi hH at1 fun Sx P5=>?_;refine EvO.jR hH rfl (ev rfl) (ev rfl) (by assumption) rfl rfl (by exact at1) (by assumption) (Nat.le_of_ble_eq_true rfl) (by exact .inl hF) (fun st hH=>?_);dsimp only[u2,u1,u3,u4,setMany,u5,u6,D.cells,Nat.reduceAdd,eA,kY] at hH;refine zQ 11 ?_;refine qh (s:=2) (vs:=[_]) hH fun k42 st QB hH=>?_;dsimp only[u2,u1,u3,u4,setMany,u5,u6,D.cells,Nat.reduceAdd,eA,kY] at hH;refine EvO.happend (s:=2) hH rfl (ev rfl) (ev rfl) (by exact at3) (by exact hH.rows (by exact at0)) rfl rfl rfl rfl rfl rfl rfl ⟨(Nat.le_of_ble_eq_true rfl),(Nat.le_of_ble_eq_true rfl)⟩ (fun _=>(put_T rfl _)) (by simp only[List.length_cons,List.length_nil,List.length_map]<;>omega) (by exact .inl hF) (fun Ov st hH=>?_);dsimp only[u2,u1,u3,u4,setMany,u5,u6,D.cells,Nat.reduceAdd,eA,kY] at hH;refine zQ 2 ?_;refine qT hH at1 (fun st hH=>?_) (gy:=hH.ocells at3);dsimp only[u2,u1,u3,u4,setMany,u5,u6,D.cells,Nat.reduceAdd,eA,kY] at hH;refine zQ 5 ?_;refine EvC.ret ⟨rx,_,_,_,rfl,rfl,?_⟩;refine⟨rfl,pd,Ov,P.set i Q.length,Q++[i],?_,hok.add hi⟩;rw[List.map_set,List.map_append];exact hH.drop 1
theorem tD {N ks:Nat} {S s0:St} {H:List aN} {seen:List Bool} (hF:S.flr≤N) (hH:Cq N S s0 ks seen H):
  ∃r ae,Ev pv 102 [.ptr ks 0 0] s0 r ae∧r=.tup []∧Cq N S ae ks (List.replicate seen.length false) H:=by
 obtain⟨pd,qd,P,Q,hH,hok⟩:=hH;have DC:=hok.iZ;refine Ev.iB rfl Jg rfl rfl rfl ?_;refine zE ?_;change EvC _ _ _ _ s0 _;refine zQ 6 ?_;refine EvO.EX hH rfl (ev rfl) at2 rfl rfl rfl rfl (fun st hH=>?_);dsimp only[u1,u2] at hH;refine zQ 7 ?_;refine EvO.AQ hH rfl (ev rfl) (by exact at2) rfl rfl (l4 (by simp only[List.length_map,List.length_reverse,List.length_cons,List.length_append,List.length_nil,List.length_take,List.length_drop,List.length_set,List.length_replicate];omega)) ⟨(by omega),(by simp only[List.length_map,List.length_reverse,List.length_cons,List.length_append,List.length_nil,List.length_take,List.length_drop,List.length_set,List.length_replicate];omega)⟩ (fun _=>(put_T rfl _)) (fun R0 hH=>?_);refine zQ 2 ?_;refine qT hH at0 (fun st hH=>?_) (gy:=hH.ocells at2);dsimp only[u2,u1,u3,u4,setMany,u5,u6,D.cells,Nat.reduceAdd,eA,kY] at hH;refine zQ 1 ?_;refine⟨fun i h=>(by cases h),_,_,_,rfl,rfl,?_⟩;exact⟨rfl,pd,_,P,[],hH,hok.clear⟩
theorem yI {N n:Nat} {S s0:St} {H:List aN} (hF:S.flr≤N) (hn:n≤4096) (hH:Has N S s0 H):
  ∃r ae,Ev pv 96 [.int .i64 (n:Nat)] s0 r ae∧∃ks,r=.tup [.ptr ks 0 0,.int .i64 0]∧Cq N S ae ks (List.replicate n false) H:=by
 refine Ev.iB rfl Mh rfl rfl rfl ?_;refine zE ?_;change EvC _ _ _ _ s0 _;refine zQ 5 ?_;have bU:decide (((n:Nat):Int)<0)=false:=by rw[decide_eq_false];omega
 refine zQ 2 ?_;refine EvC.cutT 9 (.bool false) [] ?_ (fun ff tmp htmp=>?_)
 ·refine zQ 6 ?_;refine EvO.nil (leafT ?_ ?_)
  ·dsimp only[setW,List.foldl,nth,u2,u1]
   all_goals(first|rfl|simp)
  ·refine zF ?_
   all_goals(simp[bU];omega)
 dsimp only[setW,List.foldl,nth,u2,u1];refine zQ 5 ?_;refine EvO.x5 (s:=1) hH rfl rfl rfl rfl rfl rfl rfl rfl (Nat.le_of_ble_eq_true rfl) (by omega) (fun _=>(put_T rfl _)) (fun k11 st hk11 hH=>?_);refine EvO.eI (qs:=[(0,_)]) rfl rfl rfl rfl ⟨rfl,(ev rfl),(by rfl),trivial⟩ (by intro q hq;simp only[List.mem_cons,List.not_mem_nil,or_false] at hq;rcases hq with rfl<;>exact⟨rfl,by exact Nat.le_of_ble_eq_true rfl⟩) (by show List.foldl _ [_,_] _=_;dsimp only[List.foldl_cons,List.foldl_nil,u2,u1]<;>rfl) (put_T rfl _) ?_;refine qb hH fun k13 st Ia hH=>?_;refine zQ 3 ?_;refine EvC.ret ⟨rx,_,_,_,rfl,rfl,?_⟩;refine⟨k13,rfl,.win k11 0 0 n 1,.nul,List.replicate n 0,[],?_,?_⟩
 ·rw[List.map_replicate];exact Has.g_ [_] [_,_] (hH.nulE 2)
 ·refine⟨by simp,fun i p hi=>?_,by rw[List.count_replicate];simp,by simpa using hn⟩;have:=lt_get hi;rw[List.length_replicate] at this;rw[List.getElem?_replicate,if_pos this];simp
end Go.Proofs.YtnleclohocdkaaaGreat
namespace Go.Proofs.YtnleclohocdkaaaGreat
open Go.V Go
abbrev j6:=Nat→Int
def aC (f:j6):List D:=[.int .i64 (f 0),.int .i64 (f 1),.int .i64 (f 2),.int .i64 (f 3),.int .i64 (f 4),.int .i64 (f 5),.int .i64 (f 6),.int .i64 (f 7),.int .i64 (f 8),.int .i64 (f 9)]
def bj:j6:=fun _=>-1
def nu:j6:=fun _=>0
def Av (f:j6) (x:Nat) (v:Int):j6:=fun j=>if j=x then v else f j
structure vx where
 pc:Nat
 at_:Nat
 c:j6
inductive M3 where
 |found
 |more (l:List vx)
theorem ke {n ns pc:Nat} {i:az} (h:cw n ns pc i=true):
  i.op=7∨(i.op=2∧(0≤i.x∧i.x<(n:Int))∧0≤i.y∧i.y<(n:Int))∨(i.op=3∧0≤i.x∧i.x<(n:Int))∨(i.op=4∧pc+1<n∧0≤i.x∧i.x<10)∨(i.op=5∧pc+1<n)∨(i.op=6∧pc+1<n)∨(i.op=1∧pc+1<n):=by
 unfold cw at h
 split at h
 ·rename_i h1;simp only[Bool.and_eq_true,decide_eq_true_eq] at h;refine .inr (.inr (.inr (.inr (.inr (.inr ⟨h1,?_⟩)))));omega
 ·simp only[Bool.and_eq_true] at h;obtain⟨_,h⟩:=h
  split at h
  ·rename_i h2;simp only[Bool.and_eq_true] at h;exact .inr (.inl ⟨h2,cT.1 h.1,cT.1 h.2⟩)
  ·simp only[Bool.and_eq_true] at h;obtain⟨_,h⟩:=h
   split at h
   ·rename_i h3;exact .inr (.inr (.inl ⟨h3,cT.1 h⟩))
   ·split at h
    ·rename_i h4;simp only[Bool.and_eq_true,decide_eq_true_eq] at h;exact .inr (.inr (.inr (.inl ⟨h4,by omega,cT.1 h.2⟩)))
    ·split at h
     ·rename_i h5;simp only[Bool.and_eq_true,decide_eq_true_eq] at h
      rcases h5 with h5|h5
      ·exact .inr (.inr (.inr (.inr (.inl ⟨h5,by omega⟩))))
      ·exact .inr (.inr (.inr (.inr (.inr (.inl ⟨h5,by omega⟩)))))
     ·split at h
      ·rename_i h7;exact .inl h7
      ·cases h
end Go.Proofs.YtnleclohocdkaaaGreat
