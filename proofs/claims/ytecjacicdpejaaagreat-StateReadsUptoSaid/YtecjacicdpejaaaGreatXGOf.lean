/-
 A scan is read; what bytes are decoded as: the program's and the document's.
-/
import Derived.Test.YtecjacicdpejaaaGreatXGHr
import Derived.Test.YtecjacicdpejaaaGreatXGYw
import Derived.Test.YtecjacicdpejaaaGreatXGNe
import Derived.Test.YtecjacicdpejaaaGreatXGJp
import Derived.Test.YtecjacicdpejaaaGreatXGYv
import Derived.Test.YtecjacicdpejaaaGreatXM2
import Derived.DataReads
import Derived.ChangeOld
import GoSem.ClaimChange
import Derived.Below
import Derived.Test.YtecjacicdpejaaaGreatRows
import Derived.Test.YtecjacicdpejaaaGreatXGQe
set_option maxRecDepth 100000
set_option maxHeartbeats 4000000
set_option linter.unusedSimpArgs false
set_option linter.unusedVariables false
set_option linter.unusedSectionVars false
set_option linter.unnecessarySimpa false
namespace Go.Proofs.YtecjacicdpejaaaGreat
open Go.V Go
def bX (b:List UInt8) (s:c8):(List UInt8×Int×List GV)×c8:=
 (((dY b 3 s).1,(aX b (dY b 3 s).2).1,(c_ b (aX b (dY b 3 s).2).2).1),(c_ b (aX b (dY b 3 s).2).2).2)
theorem jN {b:List UInt8} {m:Int} {s:c8} (h:s.at_≤b.length):(dY b m s).2.at_≤b.length∧((dY b m s).1.length:Int)≤max m 0:=by
 obtain⟨u1,u2,u3,u4⟩:=lj (m:=m) h;unfold dY
 split
 ·exact⟨u1,by simp;omega⟩
 ·split
  ·exact⟨h,by simp;omega⟩
  ·rename_i h1 h2;have h1:=u4 (by simpa using h1);refine⟨?_,?_⟩
   ·show(br b m s).2.at_+(br b m s).1.toNat≤_;omega
   ·rw[List.length_take];omega
theorem xm {b:List UInt8} {s:c8} (h:s.at_≤b.length):(bX b s).2.at_≤b.length:=CJ (dc (jN h).1).1
theorem xS {b:List UInt8} {s:c8} (h:s.e≠0):aX b s=(0,s):=by unfold aX;rw[if_pos h]
theorem tQ {b:List UInt8} {m:Int} {s:c8} (h:s.e≠0):br b m s=(0,s):=by
 unfold br;rw[xS h,if_neg (fun h'=>h h'.1)]
theorem Cq {b:List UInt8} {s:c8} (h:s.e≠0):(bX b s).2=s:=by
 have h1:(dY b 3 s).2=s:=by unfold dY;rw[tQ h,if_pos h]
 have h2:bF b 8 s=(0,s):=by unfold bF;rw[tQ h,if_neg (fun h'=>h h'.1)]
 unfold bX c_;rw[h1,xS h,h2];rfl
theorem rh (b:List UInt8):(∀e∈byteCells b,∀d∈e,lp d=true)∧(byteCells b).map (·.map mY)=byteCells b:=by
 constructor
 ·intro e he d hd;obtain⟨q,hq,rfl⟩:=List.mem_map.1 he;simp only[List.mem_cons,List.not_mem_nil,or_false] at hd;subst hd;rfl
 ·unfold byteCells;rw[List.map_map];rfl
structure Iz (L:List GV):Prop where
 n:L.length≤8
 t:∀g∈L,g.td=tv g.ct∧g.ct.length≤400
theorem FH {L:List GV} (h:∀g∈L,g.td=tv g.ct):∀e∈L.map f',∀d∈e,ck d=true:=by
 intro e he d hd;obtain⟨q,hq,rfl⟩:=List.mem_map.1 he;have:=h q hq;simp only[f',cA,this,tv,List.mem_cons,List.not_mem_nil,or_false] at hd
 rcases hd with rfl|rfl|rfl|rfl|rfl|rfl|rfl|rfl|rfl|rfl|rfl|rfl<;>rfl
theorem Iz.Pm {L:List GV} (h:Iz L):IA (uM L) L:=
 ⟨gd.frozen (FI L) (FH fun g hg=>(h.t g hg).1),by have:=h.n;omega,fun g hg=>⟨by rw[(h.t g hg).1];exact I5 _,by have:=(h.t g hg).2;omega⟩⟩
theorem BU:Iz []:=⟨by simp,fun g hg=>by cases hg⟩
def xk (q:List UInt8×Int×List GV):D:=.agg [gr q.1,.int .i64 q.2.1,uM q.2.2]
def Dm (b:List UInt8) (s:c8) (d:D):Prop:=∃L:List GV,d=xk ((bX b s).1.1,(bX b s).1.2.1,L)∧Iz L∧((bX b s).2.e=0→L=(bX b s).1.2.2)
theorem FM {N k:Nat} {S s0:St} {H:List a_} {x:D} {b:List UInt8} {s:c8} (hbl:b.length≤1099511627776) (bq:s.at_≤b.length) (hH:Has N S s0 (.box k (.mem 0 false (bG x s))::.aC x 1 (byteCells b)::H)):
  ∃d ah,Ev pv 39 [.ptr k 0 0] s0 d ah∧Dm b s d∧Has N S ah (.box k (.mem 0 false (bG x (bX b s).2))::.aC x 1 (byteCells b)::H):=by
 obtain⟨t1,t2⟩:=jN (m:=3) bq;have n1:=(dc (b:=b) t1).1;have Rv:(ae .rw s0).flr=(ae .rw s0).bs.length:=rfl;refine Ev.gA rfl R0 rfl rfl rfl ?_;refine zE ?_;have bn:=hH;have hH:=hH.aW;have bh:(ae .rw s0).bs=s0.bs:=rfl;generalize ae .rw s0=S2 at*;refine zQ 2 ?_;refine qa hH fun k2 st hk2 hH=>?_;dsimp only[u2,u1,u3,u4,setMany,u5,u6,D.cells,Nat.reduceAdd,bG] at hH;refine zQ 3 ?_;refine qa hH fun k3 st tG hH=>?_;refine zQ 1 ?_;have hH:Has N S2 st (.box k (.mem 0 false (bG x s))::.aC x 1 (byteCells b)::.box k3 (.mem 0 false [.nul,.int .i64 0,.nul])::.box k2 (.mem 0 false [.nul,.int .i64 0,.nul])::H):=Has.rD [_,_] [_,_] hH;refine zQ 3 ?_;obtain⟨_,st,aB,rfl,hH⟩:=FL hbl bq 3 hH;refine qv aB ?_;refine aa.An hH rfl (ev rfl) rfl rfl rfl (by omega) (fun _=>(ab rfl _)) (fun k6 st Dx hH=>?_);refine zQ 1 ?_;refine hD hH rfl (ev rfl) (ev rfl) rfl (by exact rfl) gX (by exact Nat.le_of_ble_eq_true rfl) (by omega) (fun st hH=>?_);dsimp only[u1,u2] at hH;refine zQ 1 ?_
 obtain⟨h,hh⟩:∃h,(dY b 3 s).1=h:=⟨_,rfl⟩
 have L6:bX b s=((h,(aX b (dY b 3 s).2).1,(c_ b (aX b (dY b 3 s).2).2).1),(c_ b (aX b (dY b 3 s).2).2).2):=by rw[←hh];rfl
 rw[hh] at t2 hH⊢;generalize(dY b 3 s).2=s1 at*;have hH:Has N S2 st (.box k (.mem 0 false (bG x s1))::.aC x 1 (byteCells b)::.box k3 (.mem 0 false [.win k6 0 0 h.length 1,.int .i64 0,.nul])::.box k2 (.mem 0 false [.nul,.int .i64 0,.nul])::.aC (.win k6 0 0 h.length 1) 1 (byteCells h)::H):=Has.rD [_] [_,_,_,_] hH;refine zQ 3 ?_;obtain⟨_,st,aB,rfl,hH⟩:=me hbl t1 hH;refine qv aB ?_;refine zQ 2 ?_;refine aa.fe hH rfl (ev rfl) (ev rfl) rfl (by exact rfl) fm (by exact Nat.le_of_ble_eq_true rfl) (.inr rfl) (fun st hH=>?_);dsimp only[u1,u2] at hH;refine zQ 1 ?_
 obtain⟨pl,jL⟩:∃pl,(aX b s1).1=pl:=⟨_,rfl⟩
 rw[jL] at L6 hH⊢;generalize(aX b s1).2=s2 at*;have hH:Has N S2 st (.box k (.mem 0 false (bG x s2))::.aC x 1 (byteCells b)::.box k3 (.mem 0 false [.win k6 0 0 h.length 1,.int .i64 pl,.nul])::.box k2 (.mem 0 false [.nul,.int .i64 0,.nul])::.aC (.win k6 0 0 h.length 1) 1 (byteCells h)::H):=hH;refine zQ 3 ?_;obtain⟨_,st,aB,⟨L,rfl,l1,l2,l3⟩,hH⟩:=C5 hbl n1 hH;refine qv aB ?_;refine zQ 2 ?_;refine aa.fe hH rfl (ev rfl) (ev rfl) rfl (by exact rfl) fm (by exact Nat.le_of_ble_eq_true rfl) (.inr rfl) (fun st hH=>?_);dsimp only[u1,u2] at hH;refine zQ 1 ?_;have hH:Has N S2 st (.box k (.mem 0 false (bG x (c_ b s2).2))::.aC x 1 (byteCells b)::.box k3 (.mem 0 false [.win k6 0 0 h.length 1,.int .i64 pl,uM L])::.box k2 (.mem 0 false [.nul,.int .i64 0,.nul])::.aC (.win k6 0 0 h.length 1) 1 (byteCells h)::H):=hH;refine zQ 2 ?_;refine aa.aL (m:=3) (r:=[.win k6 0 0 h.length 1,.int .i64 pl,uM L]) hH rfl (ev rfl) fm rfl rfl rfl (ab rfl _) ?_;refine hD hH rfl (ev rfl) (ev rfl) rfl (by exact rfl) gX (by exact Nat.le_of_ble_eq_true rfl) (by omega) (fun st hH=>?_);dsimp only[u1,u2,setMany] at hH;refine zQ 1 ?_;have hfz:=hH.mf (L:=s0.bs.length) (n:=15) tw (fun k hk=>by simp only[D.ref] at hk;rw[←bh];omega) (rh h).1 (by decide);rw[(rh h).2] at hfz
 have gE:bd st s0.bs.length false 16 (.agg [.win k6 0 0 h.length 1,.int .i64 pl,uM L])=some (xk (h,pl,L)):=by
  show(iH (bd st s0.bs.length false 15) [.win k6 0 0 h.length 1,.int .i64 pl,uM L]).map D.agg=_;simp only[iH,hfz];rfl
 refine ak.ret ⟨rx,_,_,_,hH.l4 rfl gX rfl,ag gE,?_⟩;rw[Dm,L6];exact⟨⟨L,rfl,⟨l1,l2⟩,l3⟩,bn.aj bh (((hH.erase 2).erase 2).erase 2)⟩
theorem FD {N k:Nat} {S s0:St} {H:List a_} {x:D} {b:List UInt8} {s:c8} (hbl:b.length≤1099511627776) (bq:s.at_≤b.length) (hH:Has N S s0 (.box k (.mem 0 false (bG x s))::.aC x 1 (byteCells b)::H)):
  ∃d ah,Ev pv 40 [.ptr k 0 0] s0 d ah∧Dm b s d∧Has N S ah (.box k (.mem 0 false (bG x (bX b s).2))::.aC x 1 (byteCells b)::H):=by
 obtain⟨t1,t2⟩:=jN (m:=3) bq;have n1:=(dc (b:=b) t1).1;have Rv:(ae .rw s0).flr=(ae .rw s0).bs.length:=rfl;refine Ev.gA rfl RZ rfl rfl rfl ?_;refine zE ?_;have bn:=hH;have hH:=hH.aW;have bh:(ae .rw s0).bs=s0.bs:=rfl;generalize ae .rw s0=S2 at*;refine zQ 2 ?_;refine qa hH fun k2 st hk2 hH=>?_;dsimp only[u2,u1,u3,u4,setMany,u5,u6,D.cells,Nat.reduceAdd,bG] at hH;refine zQ 3 ?_;refine qa hH fun k3 st tG hH=>?_;refine zQ 1 ?_;have hH:Has N S2 st (.box k (.mem 0 false (bG x s))::.aC x 1 (byteCells b)::.box k3 (.mem 0 false [.nul,.int .i64 0,.nul])::.box k2 (.mem 0 false [.nul,.int .i64 0,.nul])::H):=Has.rD [_,_] [_,_] hH;refine zQ 3 ?_;obtain⟨_,st,aB,rfl,hH⟩:=FC hbl bq 3 hH;refine qv aB ?_;refine aa.An hH rfl (ev rfl) rfl rfl rfl (by omega) (fun _=>(ab rfl _)) (fun k6 st Dx hH=>?_);refine zQ 1 ?_;refine hD hH rfl (ev rfl) (ev rfl) rfl (by exact rfl) gX (by exact Nat.le_of_ble_eq_true rfl) (by omega) (fun st hH=>?_);dsimp only[u1,u2] at hH;refine zQ 1 ?_
 obtain⟨h,hh⟩:∃h,(dY b 3 s).1=h:=⟨_,rfl⟩
 have L6:bX b s=((h,(aX b (dY b 3 s).2).1,(c_ b (aX b (dY b 3 s).2).2).1),(c_ b (aX b (dY b 3 s).2).2).2):=by rw[←hh];rfl
 rw[hh] at t2 hH⊢;generalize(dY b 3 s).2=s1 at*;have hH:Has N S2 st (.box k (.mem 0 false (bG x s1))::.aC x 1 (byteCells b)::.box k3 (.mem 0 false [.win k6 0 0 h.length 1,.int .i64 0,.nul])::.box k2 (.mem 0 false [.nul,.int .i64 0,.nul])::.aC (.win k6 0 0 h.length 1) 1 (byteCells h)::H):=Has.rD [_] [_,_,_,_] hH;refine zQ 3 ?_;obtain⟨_,st,aB,rfl,hH⟩:=mc hbl t1 hH;refine qv aB ?_;refine zQ 2 ?_;refine aa.fe hH rfl (ev rfl) (ev rfl) rfl (by exact rfl) fm (by exact Nat.le_of_ble_eq_true rfl) (.inr rfl) (fun st hH=>?_);dsimp only[u1,u2] at hH;refine zQ 1 ?_
 obtain⟨pl,jL⟩:∃pl,(aX b s1).1=pl:=⟨_,rfl⟩
 rw[jL] at L6 hH⊢;generalize(aX b s1).2=s2 at*;have hH:Has N S2 st (.box k (.mem 0 false (bG x s2))::.aC x 1 (byteCells b)::.box k3 (.mem 0 false [.win k6 0 0 h.length 1,.int .i64 pl,.nul])::.box k2 (.mem 0 false [.nul,.int .i64 0,.nul])::.aC (.win k6 0 0 h.length 1) 1 (byteCells h)::H):=hH;refine zQ 3 ?_;obtain⟨_,st,aB,⟨L,rfl,l1,l2,l3⟩,hH⟩:=C3 hbl n1 hH;refine qv aB ?_;refine zQ 2 ?_;refine aa.fe hH rfl (ev rfl) (ev rfl) rfl (by exact rfl) fm (by exact Nat.le_of_ble_eq_true rfl) (.inr rfl) (fun st hH=>?_);dsimp only[u1,u2] at hH;refine zQ 1 ?_;have hH:Has N S2 st (.box k (.mem 0 false (bG x (c_ b s2).2))::.aC x 1 (byteCells b)::.box k3 (.mem 0 false [.win k6 0 0 h.length 1,.int .i64 pl,uM L])::.box k2 (.mem 0 false [.nul,.int .i64 0,.nul])::.aC (.win k6 0 0 h.length 1) 1 (byteCells h)::H):=hH;refine zQ 2 ?_;refine aa.aL (m:=3) (r:=[.win k6 0 0 h.length 1,.int .i64 pl,uM L]) hH rfl (ev rfl) fm rfl rfl rfl (ab rfl _) ?_;refine hD hH rfl (ev rfl) (ev rfl) rfl (by exact rfl) gX (by exact Nat.le_of_ble_eq_true rfl) (by omega) (fun st hH=>?_);dsimp only[u1,u2,setMany] at hH;refine zQ 1 ?_;have hfz:=hH.mf (L:=s0.bs.length) (n:=15) tw (fun k hk=>by simp only[D.ref] at hk;rw[←bh];omega) (rh h).1 (by decide);rw[(rh h).2] at hfz
 have gE:bd st s0.bs.length false 16 (.agg [.win k6 0 0 h.length 1,.int .i64 pl,uM L])=some (xk (h,pl,L)):=by
  show(iH (bd st s0.bs.length false 15) [.win k6 0 0 h.length 1,.int .i64 pl,uM L]).map D.agg=_;simp only[iH,hfz];rfl
 refine ak.ret ⟨rx,_,_,_,hH.l4 rfl gX rfl,ag gE,?_⟩;rw[Dm,L6];exact⟨⟨L,rfl,⟨l1,l2⟩,l3⟩,bn.aj bh (((hH.erase 2).erase 2).erase 2)⟩
noncomputable def nW (p:Pg) (b:List UInt8):Int×List UInt8×Int×List GV:=
 if(aX b ⟨0,0⟩).2.e≠0 then((aX b ⟨0,0⟩).2.e,[],0,[])
 else if(aX b ⟨0,0⟩).1≠j5 p then(11,[],0,[])
 else if(kV b (bX b (aX b ⟨0,0⟩).2).2).e≠0 then((kV b (bX b (aX b ⟨0,0⟩).2).2).e,[],0,[])
 else if dec (dH p (bX b (aX b ⟨0,0⟩).2).1.2.1 (bX b (aX b ⟨0,0⟩).2).1.2.2∧(cm (bX b (aX b ⟨0,0⟩).2).1.1=true∨(bX b (aX b ⟨0,0⟩).2).1.1=[]))=true then(0,(bX b (aX b ⟨0,0⟩).2).1)
 else(4,[],0,[])
def m_ (r:Int×List UInt8×Int×List GV):D:=.tup [xk r.2,.int .i64 r.1]
theorem FZ {b:List UInt8} {s:c8} (h:s.e≠0):kV b s=s:=by unfold kV;rw[if_neg (fun h'=>h h'.1)]
theorem F0 {b:List UInt8} {s:c8} (h:(kV b s).e=0):s.e=0:=by
 unfold kV at h
 split at h
 ·rename_i h';exact h'.1
 ·exact h
theorem Ar (lK:∀st,Ev pv 149 [] st (.agg (aY dP)) st) {s0:St} {p:Pg} {x:D} {b:List UInt8} (hp:p.ok) (hR:cL p) (hx:V.Rows s0 1 x (byteCells b)) (hl:b.length≤68719476736):
  Ev pv 29 [p.d,x] s0 (m_ (nW p b)) s0:=by
 have Qk:=tX hR;have q_:=fun(st:St)=>mM (s0:=st) hp;have O8:=fun(st:St)=>HZ (s0:=st) hp Qk;have hwl:=fun(st:St) (h:List UInt8) (pl:Int) (L:List GV) (h3:h.length≤1048576) (hL:Iz L)=>xn (s0:=st) (p:=p) (place:=pl) lK hp hL.Pm (pb h) h3;rw[bK hR] at q_;have pK:=hp.c;have hsd:=hp.s;have hbl:b.length≤1099511627776:=by omega
 obtain⟨o1,o2,o3,o4,o5⟩:=dc (b:=b) (s:=⟨0,0⟩) (Nat.zero_le _);have so:=xm o1;have lq:=(jN (m:=3) o1).2;unfold Pg.d at*
 suffices Fk:∃d,Ev pv 29 [.agg [p.cd,p.sd],x] s0 d s0∧d=m_ (nW p b) by
  obtain⟨d,h1,rfl⟩:=Fk;exact h1
 refine Ev.Dq rfl R8 rfl rfl rfl ?_;refine zE ?_;obtain⟨aP,hF,hH⟩:=ri s0;generalize ae .ro s0=S at*;have hx:=Arg.of hx aP;refine zQ 2 ?_;refine qb hH fun k2 st hk2 hH=>?_;refine qa hH fun k4 st La hH=>?_;refine zQ 5 ?_;refine aa.aL (m:=2) hH rfl (ev rfl) (by exact bV) (by dsimp only[List.drop_succ_cons,List.drop_zero,List.take_succ_cons,List.take_zero,bG,Pg.cs]<;>rfl) rfl rfl (ab rfl _) ?_;refine qv ((q_ _)) ?_;refine zQ 2 ?_;refine ak.cond (v:=false) (by dsimp only[Fr.ev,Fr.get,nth,V.look];rfl) (fun h=>by cases h) (fun _=>?_);refine zQ 4 ?_;obtain⟨gI,gE⟩:=hH.ir hF;obtain⟨_,st,aB,kr,xr,rfl,ho⟩:=FN gI gE (hx.rows hH) hl;have hH:=hH.oJ ho
 (dsimp only[u3,u4] at hH)
 refine qv aB ?_;refine zQ 5 ?_;obtain⟨_,st,aB,rfl,hH⟩:=me hbl (Nat.zero_le _) hH;refine qv aB ?_;refine zQ 2 ?_
 have hv:nW p b=if(aX b ⟨0,0⟩).2.e≠0 then((aX b ⟨0,0⟩).2.e,[],0,[])
  else if(aX b ⟨0,0⟩).1≠j5 p then(11,[],0,[])
  else if(kV b (bX b (aX b ⟨0,0⟩).2).2).e≠0 then((kV b (bX b (aX b ⟨0,0⟩).2).2).e,[],0,[])
  else if dec (dH p (bX b (aX b ⟨0,0⟩).2).1.2.1 (bX b (aX b ⟨0,0⟩).2).1.2.2∧(cm (bX b (aX b ⟨0,0⟩).2).1.1=true∨(bX b (aX b ⟨0,0⟩).2).1.1=[]))=true then(0,(bX b (aX b ⟨0,0⟩).2).1)
  else(4,[],0,[]):=rfl
 have G2:=Cq (b:=b) (s:=(aX b ⟨0,0⟩).2)
 have Ji:(bX b (aX b ⟨0,0⟩).2).1.1.length≤3:=by
  have:(((bX b (aX b ⟨0,0⟩).2).1.1.length:Nat):Int)≤max 3 0:=lq;omega
 obtain⟨yi,oZ⟩:∃n s1,aX b ⟨0,0⟩=(n,s1):=⟨_,_,rfl⟩
 obtain⟨s1,oZ⟩:=oZ;rw[oZ] at hv so o1 G2 Ji;simp only[oZ] at hH⊢;dsimp only at hv so o1 G2 Ji;have pG:∀(st:St) {H:List a_},Has s0.bs.length S st (.box kr (.mem 0 false (bG xr s1))::.aC xr 1 (byteCells b)::H)→_:=fun st {H} h=>FM (s:=s1) hbl o1 h;unfold Dm at pG;generalize bX b s1=Q at*;obtain⟨⟨h,pl,L0⟩,s2⟩:=Q;dsimp only at so G2 Ji pG
 by_cases gB:s1.e=0
 ·have bk:(s1.e==0)=true:=by simpa using gB
  rw[if_neg (by simpa using gB)] at hv
  by_cases hh:yi=j5 p
  ·rw[if_neg (by simpa using hh)] at hv;have hc:(yi !=j5 p)=false:=by simpa using hh
   refine zQ 4 ?_;obtain⟨_,st,aB,rfl,hH⟩:=wz hH;refine qv aB ?_;refine zQ 3 ?_;refine aa.aL (m:=2) hH (ai rfl rfl rfl bk) (ev rfl) (by exact gX) (by dsimp only[List.drop_succ_cons,List.drop_zero,List.take_succ_cons,List.take_zero,bG,Pg.cs]<;>rfl) rfl rfl (ab rfl _) ?_;refine qv ((O8 _)) ?_ (hg:=wi bk);refine zQ 3 ?_;refine qE rfl (by rw[hc]) ?_;refine zQ 4 ?_;obtain⟨_,st,aB,⟨L,rfl,hL,Ph⟩,hH⟩:=pG _ hH;refine qv aB ?_;refine qa hH fun k8 st J_ hH=>?_;dsimp only[u2,u1,u3,u4,setMany,u5,u6,D.cells,Nat.reduceAdd,bG,Pg.cs] at hH;refine aa.cM hH rfl (ev rfl) (ev rfl) rfl (by exact rfl) aN (by exact rfl) (.inr rfl) (fun st hH=>?_);dsimp only[u1,u2] at hH;refine zQ 1 ?_;have hH:Has s0.bs.length S st (.box kr (.mem 0 false (bG xr s2))::.aC xr 1 (byteCells b)::.box k8 (.mem 0 false [gr h,.int .i64 pl,uM L])::.box k4 (.mem 0 false [.nul,.int .i64 0,.nul])::.box k2 (.mem 0 false [p.cd,p.sd])::[]):=Has.rD [_] [_,_] hH;refine zQ 4 ?_;obtain⟨_,st,aB,rfl,hH⟩:=BX hbl hH;refine qv aB ?_;refine zQ 2 ?_;have HV:=F0 (b:=b) (s:=s2);generalize kV b s2=s3 at*;refine zQ 5 ?_
   by_cases he3:s3.e=0
   ·rw[if_neg (by simpa using he3)] at hv;have Ru:=Ph (HV he3);subst Ru;refine qE rfl (by simp[he3]) ?_;refine zQ 4 ?_;refine aa.aL (m:=2) hH rfl (ev rfl) (by exact tw) (by dsimp only[List.drop_succ_cons,List.drop_zero,List.take_succ_cons,List.take_zero,bG,Pg.cs]<;>rfl) rfl rfl (ab rfl _) ?_;refine aa.aL (m:=3) (r:=[gr h,.int .i64 pl,uM L]) hH rfl (ev rfl) fm rfl rfl rfl (ab rfl _) ?_;refine qv ((hwl _ h pl L (by omega) hL)) ?_;refine zQ 2 ?_
    by_cases hW:dH p pl L∧(cm h=true∨h=[])
    ·rw[bK hW,if_pos rfl] at hv;rw[bK hW,hv];refine ak.cond (v:=false) (by dsimp only[Fr.ev,Fr.get,nth,V.look];rfl) (fun h=>by cases h) (fun _=>?_);refine zQ 3 ?_;refine aa.aL (m:=3) (r:=[gr h,.int .i64 pl,uM L]) hH rfl (ev rfl) fm rfl rfl rfl (ab rfl _) ?_;refine aa.cM hH rfl (ev rfl) (ev rfl) rfl (by exact rfl) gX (by exact rfl) (.inr rfl) (fun st hH=>?_);dsimp only[u1,u2] at hH;refine zQ 2 ?_;refine ak.ret ⟨rx,_,_,hH.eH rfl gX rfl rfl,rl aP hH (show _=some (m_ (0,h,pl,L)) from rfl),rfl⟩
    ·rw[cq hW,if_neg (by simp)] at hv;rw[cq hW,hv];refine ak.cond (v:=true) (by dsimp only[Fr.ev,Fr.get,nth,V.look];rfl) (fun _=>?_) (fun h=>by cases h);refine zQ 2 ?_;refine aa.go (d:=.agg [.nul,.int .i64 0,.nul]) (st1:=_) rfl rfl rfl (ab rfl _) ?_;refine aa.cM hH rfl (ev rfl) (ev rfl) rfl (by exact rfl) gX (by exact rfl) (.inr rfl) (fun st hH=>?_);dsimp only[u1,u2] at hH;refine zQ 2 ?_;refine ak.ret ⟨rx,_,_,hH.eH rfl gX rfl rfl,rl aP hH (show _=some (m_ (4,[],0,[])) from rfl),rfl⟩
   ·rw[if_pos he3] at hv;rw[hv];refine qD rfl (by simp[he3]) ?_;refine zQ 2 ?_;refine aa.go (d:=.agg [.nul,.int .i64 0,.nul]) (st1:=_) rfl rfl rfl (ab rfl _) ?_;refine qm ?_;refine aa.cM hH rfl (ev rfl) (ev rfl) rfl (by exact rfl) gX (by exact rfl) (.inr rfl) (fun st hH=>?_);dsimp only[u1,u2] at hH;refine zQ 2 ?_;refine ak.ret ⟨rx,_,_,hH.eH rfl gX rfl rfl,rl aP hH (show _=some (m_ (s3.e,[],0,[])) from rfl),rfl⟩
  ·rw[if_pos hh] at hv;rw[hv];have hc:(yi !=j5 p)=true:=by simpa using hh
   refine zQ 4 ?_;obtain⟨_,st,aB,rfl,hH⟩:=wz hH;refine qv aB ?_;refine zQ 3 ?_;refine aa.aL (m:=2) hH (ai rfl rfl rfl bk) (ev rfl) (by exact gX) (by dsimp only[List.drop_succ_cons,List.drop_zero,List.take_succ_cons,List.take_zero,bG,Pg.cs]<;>rfl) rfl rfl (ab rfl _) ?_;refine qv ((O8 _)) ?_ (hg:=wi bk);refine zQ 3 ?_;refine qD rfl (by rw[hc]) ?_;refine zQ 2 ?_;refine aa.go (d:=.agg [.nul,.int .i64 0,.nul]) (st1:=_) rfl rfl rfl (ab rfl _) ?_;refine aa.cM hH rfl (ev rfl) (ev rfl) rfl (by exact rfl) fm (by exact rfl) (.inr rfl) (fun st hH=>?_);dsimp only[u1,u2] at hH;refine zQ 2 ?_;refine ak.ret ⟨rx,_,_,hH.eH rfl fm rfl rfl,rl aP hH (show _=some (m_ (11,[],0,[])) from rfl),rfl⟩
 ·have bk:(s1.e==0)=false:=by simpa using gB
  rw[if_pos gB] at hv;have Qb:=G2 gB;subst Qb;rw[hv];refine zQ 4 ?_;obtain⟨_,st,aB,rfl,hH⟩:=wz hH;refine qv aB ?_;refine zQ 13 ?_;obtain⟨_,st,aB,⟨L,rfl,hL,Ph⟩,hH⟩:=pG _ hH;refine qv aB ?_;refine qa hH fun k8 st J_ hH=>?_;dsimp only[u2,u1,u3,u4,setMany,u5,u6,D.cells,Nat.reduceAdd,bG,Pg.cs] at hH;refine aa.cM hH rfl (ev rfl) (ev rfl) rfl (by exact rfl) aN (by exact rfl) (.inr rfl) (fun st hH=>?_);dsimp only[u1,u2] at hH;refine zQ 1 ?_;have hH:Has s0.bs.length S st (.box kr (.mem 0 false (bG xr s2))::.aC xr 1 (byteCells b)::.box k8 (.mem 0 false [gr h,.int .i64 pl,uM L])::.box k4 (.mem 0 false [.nul,.int .i64 0,.nul])::.box k2 (.mem 0 false [p.cd,p.sd])::[]):=Has.rD [_] [_,_] hH;refine zQ 4 ?_;obtain⟨_,st,aB,rfl,hH⟩:=BX hbl hH;refine qv aB ?_;refine zQ 2 ?_;rw[FZ gB] at hH;simp only[FZ gB];refine zQ 5 ?_;refine qD rfl (by simp[gB]) ?_;refine zQ 2 ?_;refine aa.go (d:=.agg [.nul,.int .i64 0,.nul]) (st1:=_) rfl rfl rfl (ab rfl _) ?_;refine qm ?_;refine aa.cM hH rfl (ev rfl) (ev rfl) rfl (by exact rfl) gX (by exact rfl) (.inr rfl) (fun st hH=>?_);dsimp only[u1,u2] at hH;refine zQ 2 ?_;refine ak.ret ⟨rx,_,_,hH.eH rfl gX rfl rfl,rl aP hH (show _=some (m_ (s2.e,[],0,[])) from rfl),rfl⟩
theorem Ao (lK:∀st,Ev pv 193 [] st (.agg (aY dP)) st) {s0:St} {p:Pg} {x:D} {b:List UInt8} (hp:p.ok) (hR:cL p) (hx:V.Rows s0 1 x (byteCells b)) (hl:b.length≤68719476736):
  Ev pv 30 [p.d,x] s0 (m_ (nW p b)) s0:=by
 have Qk:=tX hR;have q_:=fun(st:St)=>nA (s0:=st) hp;have O8:=fun(st:St)=>D' (s0:=st) hp Qk;have hwl:=fun(st:St) (h:List UInt8) (pl:Int) (L:List GV) (h3:h.length≤1048576) (hL:Iz L)=>vD (s0:=st) (p:=p) (place:=pl) lK hp hL.Pm (pb h) h3;rw[bK hR] at q_;have pK:=hp.c;have hsd:=hp.s;have hbl:b.length≤1099511627776:=by omega
 obtain⟨o1,o2,o3,o4,o5⟩:=dc (b:=b) (s:=⟨0,0⟩) (Nat.zero_le _);have so:=xm o1;have lq:=(jN (m:=3) o1).2;unfold Pg.d at*
 suffices Fk:∃d,Ev pv 30 [.agg [p.cd,p.sd],x] s0 d s0∧d=m_ (nW p b) by
  obtain⟨d,h1,rfl⟩:=Fk;exact h1
 refine Ev.Dq rfl R7 rfl rfl rfl ?_;refine zE ?_;obtain⟨aP,hF,hH⟩:=ri s0;generalize ae .ro s0=S at*;have hx:=Arg.of hx aP;refine qq<|qj fun K hK=>qb hH fun k2 st hk2 hH=>?_;refine qa hH fun k4 st La hH=>?_;refine qm ?_;refine qe hK<|qq<|qq<|qj fun K hK=>?_;refine aa.aL (m:=2) hH rfl (ev rfl) (by exact bV) (by dsimp only[List.drop_succ_cons,List.drop_zero,List.take_succ_cons,List.take_zero,bG,Pg.cs]<;>rfl) rfl rfl (ab rfl _) ?_;refine qv ((q_ _)) ?_;refine qg ?_;refine qe hK<|ak.cond (v:=false) (by dsimp only[Fr.ev,Fr.get,nth,V.look];rfl) (fun h=>by cases h) (fun _=>?_);refine ak.skip<|qq<|qj fun K hK=>qm ?_;obtain⟨gI,gE⟩:=hH.ir hF;obtain⟨_,st,aB,kr,xr,rfl,ho⟩:=FE gI gE (hx.rows hH) hl;have hH:=hH.oJ ho
 (dsimp only[u3,u4] at hH)
 refine qv aB ?_;refine qm ?_;refine qe hK<|qq<|qj fun K hK=>qm ?_;obtain⟨_,st,aB,rfl,hH⟩:=mc hbl (Nat.zero_le _) hH;refine qv aB ?_;refine qm ?_;refine qe hK ?_
 have hv:nW p b=if(aX b ⟨0,0⟩).2.e≠0 then((aX b ⟨0,0⟩).2.e,[],0,[])
  else if(aX b ⟨0,0⟩).1≠j5 p then(11,[],0,[])
  else if(kV b (bX b (aX b ⟨0,0⟩).2).2).e≠0 then((kV b (bX b (aX b ⟨0,0⟩).2).2).e,[],0,[])
  else if dec (dH p (bX b (aX b ⟨0,0⟩).2).1.2.1 (bX b (aX b ⟨0,0⟩).2).1.2.2∧(cm (bX b (aX b ⟨0,0⟩).2).1.1=true∨(bX b (aX b ⟨0,0⟩).2).1.1=[]))=true then(0,(bX b (aX b ⟨0,0⟩).2).1)
  else(4,[],0,[]):=rfl
 have Ji:(bX b (aX b ⟨0,0⟩).2).1.1.length≤3:=by
  have:(((bX b (aX b ⟨0,0⟩).2).1.1.length:Nat):Int)≤max 3 0:=lq;omega
 obtain⟨yi,oZ⟩:∃n s1,aX b ⟨0,0⟩=(n,s1):=⟨_,_,rfl⟩
 obtain⟨s1,oZ⟩:=oZ;rw[oZ] at hv so o1 Ji;simp only[oZ] at hH⊢;dsimp only at hv so o1 Ji;have pG:∀(st:St) {H:List a_},Has s0.bs.length S st (.box kr (.mem 0 false (bG xr s1))::.aC xr 1 (byteCells b)::H)→_:=fun st {H} h=>FD (s:=s1) hbl o1 h;unfold Dm at pG;generalize bX b s1=Q at*;obtain⟨⟨h,pl,L0⟩,s2⟩:=Q;dsimp only at so Ji pG;refine qq<|qq<|qj fun K hK=>qm ?_;refine qg ?_;refine qp (o:=2) ?_;refine ql hH aN ?_;refine qg ?_;refine qe hK ?_
 by_cases gB:s1.e=0
 ·rw[if_neg (by simpa using gB)] at hv;refine qE rfl (by simp[gB]) ?_;refine ak.skip<|qq<|qq<|qj fun K hK=>qm ?_;refine aa.aL (m:=2) hH rfl (ev rfl) (by exact gX) (by dsimp only[List.drop_succ_cons,List.drop_zero,List.take_succ_cons,List.take_zero,bG,Pg.cs]<;>rfl) rfl rfl (ab rfl _) ?_;refine qv ((O8 _)) ?_;refine qg ?_;refine qe hK ?_
  by_cases hh:yi=j5 p
  ·rw[if_neg (by simpa using hh)] at hv;have hc:(yi !=j5 p)=false:=by simpa using hh
   refine qE rfl (by rw[hc]) ?_;refine ak.skip<|qq<|qj fun K hK=>qm ?_;obtain⟨_,st,aB,⟨L,rfl,hL,Ph⟩,hH⟩:=pG _ hH;refine qv aB ?_;refine qa hH fun k8 st J_ hH=>?_;dsimp only[u2,u1,u3,u4,setMany,u5,u6,D.cells,Nat.reduceAdd,bG,Pg.cs] at hH;refine aa.cM hH rfl (ev rfl) (ev rfl) rfl (by exact rfl) aN (by exact rfl) (.inr rfl) (fun st hH=>?_);dsimp only[u1,u2] at hH;refine qe hK ?_;have hH:Has s0.bs.length S st (.box kr (.mem 0 false (bG xr s2))::.aC xr 1 (byteCells b)::.box k8 (.mem 0 false [gr h,.int .i64 pl,uM L])::.box k4 (.mem 0 false [.nul,.int .i64 0,.nul])::.box k2 (.mem 0 false [p.cd,p.sd])::[]):=Has.rD [_] [_,_] hH;refine qq<|qq<|qj fun K hK=>qm ?_;obtain⟨_,st,aB,rfl,hH⟩:=H7 hbl hH;refine qv aB ?_;refine qm ?_;refine qe hK ?_;have HV:=F0 (b:=b) (s:=s2);generalize kV b s2=s3 at*;refine qq<|qj fun K hK=>qm ?_;refine qg ?_;refine qe hK ?_
   by_cases he3:s3.e=0
   ·rw[if_neg (by simpa using he3)] at hv;have Ru:=Ph (HV he3);subst Ru;refine qE rfl (by simp[he3]) ?_;refine ak.skip<|qq<|qq<|qj fun K hK=>?_;refine aa.aL (m:=2) hH rfl (ev rfl) (by exact tw) (by dsimp only[List.drop_succ_cons,List.drop_zero,List.take_succ_cons,List.take_zero,bG,Pg.cs]<;>rfl) rfl rfl (ab rfl _) ?_;refine aa.aL (m:=3) (r:=[gr h,.int .i64 pl,uM L]) hH rfl (ev rfl) fm rfl rfl rfl (ab rfl _) ?_;refine qv ((hwl _ h pl L (by omega) hL)) ?_;refine qg ?_;refine qe hK ?_
    by_cases hW:dH p pl L∧(cm h=true∨h=[])
    ·rw[bK hW,if_pos rfl] at hv;rw[bK hW,hv];refine ak.cond (v:=false) (by dsimp only[Fr.ev,Fr.get,nth,V.look];rfl) (fun h=>by cases h) (fun _=>?_);refine ak.skip<|qq<|qj fun K hK=>aa.aL (m:=3) (r:=[gr h,.int .i64 pl,uM L]) hH rfl (ev rfl) fm rfl rfl rfl (ab rfl _) ?_;refine aa.cM hH rfl (ev rfl) (ev rfl) rfl (by exact rfl) gX (by exact rfl) (.inr rfl) (fun st hH=>?_);dsimp only[u1,u2] at hH;refine qm ?_;refine qe hK<|ak.ret ⟨rx,_,_,hH.eH rfl gX rfl rfl,rl aP hH (show _=some (m_ (0,h,pl,L)) from rfl),rfl⟩
    ·rw[cq hW,if_neg (by simp)] at hv;rw[cq hW,hv];refine ak.cond (v:=true) (by dsimp only[Fr.ev,Fr.get,nth,V.look];rfl) (fun _=>?_) (fun h=>by cases h);refine qq<|qj fun K hK=>aa.go (d:=.agg [.nul,.int .i64 0,.nul]) (st1:=_) rfl rfl rfl (ab rfl _) ?_;refine aa.cM hH rfl (ev rfl) (ev rfl) rfl (by exact rfl) gX (by exact rfl) (.inr rfl) (fun st hH=>?_);dsimp only[u1,u2] at hH;refine qm ?_;refine qe hK<|ak.ret ⟨rx,_,_,hH.eH rfl gX rfl rfl,rl aP hH (show _=some (m_ (4,[],0,[])) from rfl),rfl⟩
   ·rw[if_pos he3] at hv;rw[hv];refine qD rfl (by simp[he3]) ?_;refine qq<|qj fun K hK=>aa.go (d:=.agg [.nul,.int .i64 0,.nul]) (st1:=_) rfl rfl rfl (ab rfl _) ?_;refine qm ?_;refine aa.cM hH rfl (ev rfl) (ev rfl) rfl (by exact rfl) gX (by exact rfl) (.inr rfl) (fun st hH=>?_);dsimp only[u1,u2] at hH;refine qm ?_;refine qe hK<|ak.ret ⟨rx,_,_,hH.eH rfl gX rfl rfl,rl aP hH (show _=some (m_ (s3.e,[],0,[])) from rfl),rfl⟩
  ·rw[if_pos hh] at hv;rw[hv];have hc:(yi !=j5 p)=true:=by simpa using hh
   refine qD rfl (by rw[hc]) ?_;refine qq<|qj fun K hK=>aa.go (d:=.agg [.nul,.int .i64 0,.nul]) (st1:=_) rfl rfl rfl (ab rfl _) ?_;refine aa.cM hH rfl (ev rfl) (ev rfl) rfl (by exact rfl) fm (by exact rfl) (.inr rfl) (fun st hH=>?_);dsimp only[u1,u2] at hH;refine qm ?_;refine qe hK<|ak.ret ⟨rx,_,_,hH.eH rfl fm rfl rfl,rl aP hH (show _=some (m_ (11,[],0,[])) from rfl),rfl⟩
 ·rw[if_pos gB] at hv;rw[hv];refine qD rfl (by simp[gB]) ?_;have hB:=hH
  have Tb:refs (bG xr s1)≤st.bs.length:=by
   have h1:∀k,xr.ref=k+1→k+1≤st.bs.length:=fun k hk=>hH.EX (j:=1) bV hk;have h2:refs (bG xr s1)=xr.ref:=by simp only[bG,refs,D.ref,Nat.max_zero,Nat.max_self]
   rw[h2]
   rcases Nat.eq_zero_or_pos xr.ref with h|h
   ·omega
   ·have:=h1 (xr.ref-1) (by omega);omega
  unfold bG at Tb;change ak _ _ _ _ _ _;refine qq ?_;generalize hK:eD _ _ _ _=K;refine ak.Lp rfl ?_;refine qw.cons ?_;refine aa.go (d:=.agg [.nul,.int .i64 0,.nul]) (st1:=_) rfl rfl rfl (ab rfl _) ?_;refine aa.nil ⟨rfl,?_⟩;refine qw.cons ?_;refine qm ?_;refine aa.nil ⟨rfl,?_⟩;refine qw.cons ?_;refine qg ?_;refine aa.nil ⟨rfl,?_⟩;refine qw.cons ?_;refine qp (o:=2) ?_;refine aa.nil ⟨rfl,?_⟩;refine qw.cons ?_;refine ql hH aN ?_;refine aa.nil ⟨rfl,?_⟩;refine qw.cons ?_;refine aa.cM hH rfl (ev rfl) (ev rfl) rfl (by exact rfl) fm (by exact rfl) (.inr rfl) (fun st hH=>?_);dsimp only[u1,u2] at hH;refine aa.nil ⟨by exact Bool.and_eq_true_iff.2 ⟨Di rfl rfl rfl (hB.at aN) (hH.at aN) (hB.at aN) Tb,rfl⟩,?_⟩;refine qw.cons ?_;refine qm ?_;refine aa.nil ⟨rfl,?_⟩;refine qw.nil ?_;subst hK;refine ak.ret ⟨rx,_,_,hH.eH rfl fm rfl rfl,rl aP hH (show _=some (m_ (s1.e,[],0,[])) from rfl),rfl⟩
def tm (code:List aK) (R:List Bool):Prop:=∀(u:Nat) i,R[u]?=some true→code[u]?=some i→∀w∈bI u i,R[w.toNat]?=some true
structure KM (code:List aK) (R:List Bool) (pl:Int) (w:Wk):Prop where
 b:w.dn=true∨mF w.best
 p:cI w.best pl
 r:∀t∈w.rdy,R[t.pc]?=some true∧(∃i,code[t.pc]?=some i∧i.op=1)∧cI t.c pl
theorem KM.seen {code:List aK} {R:List Bool} {pl:Int} {w:Wk} (h:KM code R pl w) (s:List Bool):KM code R pl ⟨s,w.dn,w.best,w.rdy⟩:=⟨h.b,h.p,h.r⟩
theorem uc {f:mr} {pl Ef:Int} (h:cI f pl) (hp:pl≤Ef):cI f Ef:=fun i hi=>⟨(h i hi).1,by have:=(h i hi).2;omega⟩
structure Gs (p:Pg) (s:Int) (pl:Int) (l:PL):Prop where
 b:l.dn=true∨mF l.best
 c:cI l.best pl
 t:∀t∈l.ct,pM p s p.code.length (t.pc:Int)∧cI t.c pl
 d:(l.ct.map GM.pc).Nodup
theorem Gs.up {p:Pg} {s pl Ef:Int} {l:PL} (h:Gs p s pl l) (hp:pl≤Ef):Gs p s Ef l:=⟨h.b,uc h.c hp,fun t ht=>⟨(h.t t ht).1,uc (h.t t ht).2 hp⟩,h.d⟩
def GM.g (t:GM):GT:=⟨(t.pc:Int),t.c⟩
def VL.g (l:VL):GV:=⟨l.dn,l.best,l.td,l.ct.map GM.g⟩
def oT (fr:Go.V.Fr) (k:Nat):Go.V.D:=Go.V.nth .bj fr.loc k
theorem MH.over {A H2:List a_} {N:Nat} {S st ah:St} {ks kv:Nat} {p:Pg} {pl:Nat} {ld:D} {L:List VL} {H:List a_} (hM:MH A N S st ks kv p pl ld L H) (h2:Has st.bs.length st ah H2):MH (H2++A) N S ah ks kv p pl ld L H:=by
 obtain⟨pd,qd,P,Q,sn,hH,h3,h4⟩:=EN hM;exact EO (by simpa only[List.append_assoc] using Has.over hH h2) h3 h4
def jf (st:St) (es:List (List D)) (L:List GV):Prop:=es.length=L.length∧∀(i:Nat) l,L[i]?=some l→∃d,V.Rows st 11 d (l.ct.map eN)∧es[i]?=some (cA l.dn l.best d)
theorem GQ {L L':List GV} (h:L'.map GV.told=L.map GV.told):L'.length=L.length∧∀(i:Nat) l,L[i]?=some l→∃l',L'[i]?=some l'∧l'.dn=l.dn∧l'.best=l.best∧l'.ct=l.ct:=by
 refine⟨by have:=congrArg List.length h;simpa using this,fun i l hl=>?_⟩;have h1:(L'.map GV.told)[i]?=some l.told:=by rw[h,List.getElem?_map,hl];rfl
 rw[List.getElem?_map] at h1;obtain⟨l',h2,h3⟩:=Option.map_eq_some_iff.1 h1;refine⟨l',h2,?_⟩;simp only[GV.told,GV.mk.injEq] at h3;exact⟨h3.1,h3.2.1,h3.2.2.2⟩
theorem Dn.LJ {st:St} {x:D} {L L':List GV} (hx:Dn st x L') (h:L'.map GV.told=L.map GV.told):jf st (L'.map f') L:=by
 obtain⟨h1,h2⟩:=GQ h;refine⟨by rw[List.length_map];exact h1,fun i l hl=>?_⟩;obtain⟨l',h3,h4,h5,h6⟩:=h2 i l hl;refine⟨l'.td,by rw[←h6];exact(hx.2.2 l' (List.mem_of_getElem? h3)).1,?_⟩;rw[Ap h3,←h4,←h5];rfl
theorem jf.ex {s0 S st:St} {H:List a_} {es:List (List D)} {L:List GV} (h:jf s0 es L) (hS:S.bs=s0.bs) (hH:Has s0.bs.length S st H):jf st es L:=⟨h.1,fun i l hl=>by
 obtain⟨d,h1,h2⟩:=h.2 i l hl
 exact⟨d,(Arg.of h1 hS).rows hH,h2⟩⟩
theorem Jw (t:GT):eL pv .neq 139 (.agg (eN t)) (.agg (eN t))=some (.bool false):=by
 have h:∀a b c d e g i j k l m:Int,eL pv .neq 139 (.agg [.int .i64 a,.int .i64 b,.int .i64 c,.int .i64 d,.int .i64 e,.int .i64 g,.int .i64 i,.int .i64 j,.int .i64 k,.int .i64 l,.int .i64 m]) (.agg [.int .i64 a,.int .i64 b,.int .i64 c,.int .i64 d,.int .i64 e,.int .i64 g,.int .i64 i,.int .i64 j,.int .i64 k,.int .i64 l,.int .i64 m])=Option.map (fun b=>D.bool !b) (match some (a==a) with|some true=>(match(match some (b==b) with|some true=>(match some (c==c) with|some true=>(match some (d==d) with|some true=>(match some (e==e) with|some true=>(match some (g==g) with|some true=>(match some (i==i) with|some true=>(match some (j==j) with|some true=>(match some (k==k) with|some true=>(match some (l==l) with|some true=>(match some (m==m) with|some true=>some true|some false=>some false|none=>none)|some false=>some false|none=>none)|some false=>some false|none=>none)|some false=>some false|none=>none)|some false=>some false|none=>none)|some false=>some false|none=>none)|some false=>some false|none=>none)|some false=>some false|none=>none)|some false=>some false|none=>none)|some false=>some false|none=>none) with|some true=>some true|some false=>some false|none=>none)|some false=>some false|none=>none):=fun _ _ _ _ _ _ _ _ _ _ _=>rfl;unfold eN;rw[h];simp only[beq_self_eq_true,Option.map_some,Bool.not_true]
theorem Cs {s0:St} {x y:D} {l:List GT} (hx:V.Rows s0 11 x (l.map eN)) (hy:V.Rows s0 11 y (l.map eN)) (hl:l.length≤1073741824):Ev pv 108 [x,y] s0 (.bool true) s0:=by
 refine Ev.ia rfl Oy rfl rfl rfl ?_;refine zE ?_;obtain⟨aP,hF,hH⟩:=ri s0;generalize ae .ro s0=S at*;have hx:=Arg.of hx aP;have hy:=Arg.of hy aP;refine zQ 8 ?_;refine qn ?_;simp only[List.length_map];refine qm ?_;refine qn ?_;simp only[List.length_map];refine zQ 2 ?_;refine qE rfl (by simp) ?_;refine zQ 7 ?_;refine ak.loop (fun mm fr st=>∃(i:Nat),fr.clean=⟨6,[x,y,oT fr 2,oT fr 3,.bool false,.int .i64 (i:Nat)],[]⟩∧Has s0.bs.length S st []∧(i+mm=l.length)) (l.length) ?_ ?_
 ·exact⟨0,rfl,hH,by omega⟩
 rintro mm fr st ⟨i,hfr,hH,hi⟩;rw[hfr];clear hfr;generalize oT fr=ee;clear fr;refine zQ 5 ?_;refine qn ?_;simp only[List.length_map];refine zQ 2 ?_;refine zP (fun h1=>?_) fun h1=>?_
 ·refine zQ 1 ?_
  obtain⟨p,hp⟩:∃p,l[i]?=some p:=⟨l[i]'(by omega),List.getElem?_eq_getElem _⟩
  have gm:=Aq hp;refine zQ 6 ?_;refine qr fun SV Mq=>?_;refine aa.cV rfl (ev rfl) (by assumption) rfl (ab rfl _) ?_;refine zQ 2 ?_;refine qr fun OT HG=>?_;refine aa.cV rfl (ev rfl) (by assumption) rfl (ab rfl _) ?_;refine aa.KZ rfl (ev rfl) (ev rfl) (Jw p) (ab rfl _) ?_;refine zQ 8 ?_;exact⟨mm-1,by omega,⟨i+1,rfl,hH,by omega⟩⟩
 ·refine zQ 5 ?_;refine ak.ret ⟨rx,_,rfl,rl aP hH (rfl)⟩
theorem CK {s0:St} {x y:D} {es fs:List (List D)} {L:List GV} (hx:V.Rows s0 12 x es) (hy:V.Rows s0 12 y fs) (tH:jf s0 es L) (MR:jf s0 fs L) (hl:L.length≤1073741824) (P4:∀l∈L,l.ct.length≤1000):Ev pv 47 [x,y] s0 (.bool true) s0:=by
 obtain⟨sG,Ws⟩:=tH;obtain⟨mb,Wo⟩:=MR;refine Ev.ia rfl RX rfl rfl rfl ?_;refine zE ?_;obtain⟨aP,hF,hH⟩:=ri s0;generalize ae .ro s0=S at*;have hx:=Arg.of hx aP;have hy:=Arg.of hy aP;refine zQ 8 ?_;refine qn ?_;refine qm ?_;refine qn ?_;refine zQ 2 ?_;refine qE rfl (by rw[sG,mb];simp) ?_;refine zQ 7 ?_;refine ak.loop (fun mm fr st=>∃(i:Nat),fr.clean=⟨6,[x,y,oT fr 2,oT fr 3,.bool false,.int .i64 (i:Nat)],[]⟩∧Has s0.bs.length S st []∧(i+mm=es.length)) (es.length) ?_ ?_
 ·exact⟨0,rfl,hH,by omega⟩
 rintro mm fr st ⟨i,hfr,hH,hi⟩;rw[hfr];clear hfr;generalize oT fr=ee;clear fr;refine zQ 5 ?_;refine qn ?_;refine zQ 2 ?_;refine zP (fun h1=>?_) fun h1=>?_
 ·refine zQ 1 ?_
  obtain⟨l,tp⟩:∃l,L[i]?=some l:=⟨L[i]'(by omega),List.getElem?_eq_getElem _⟩
  obtain⟨d1,wU,gm⟩:=Ws i l tp;obtain⟨d2,tJ,mA⟩:=Wo i l tp;have nM:=P4 l (List.mem_of_getElem? tp);have bR:(l.dn !=l.dn)=false:=by simp
  have il:false=false:=rfl;refine zQ 3 ?_;refine ak.cY 54 (.bool false) [] ?_ (fun ff tmp cx=>?_)
  ·refine zQ 2 ?_;refine qr fun SV Mq=>?_;refine qf (fo:=0) fun Lw E8=>?_;refine zQ 3 ?_;refine qr fun Lv E7=>?_;refine qf (fo:=0) fun KW CT=>?_;refine zQ 5 ?_;refine qr (fun XN VE=>?_) (hg:=wi bR);refine qf (fo:=1) (fun SQ HF=>?_) (hg:=wi bR);refine zQ 3 ?_;refine qr (fun Us Qv=>?_) (hg:=wi bR);refine qf (fo:=1) (fun SP Mm=>?_) (hg:=wi bR);refine zQ 1 ?_;refine aa.KZ (ai rfl rfl rfl bR) (ev rfl) (ev rfl) (EK l.best) (ab rfl _) ?_;refine zQ 4 ?_;refine qr (fun SN Mk=>?_) (hg:=wi il);refine qf (fo:=11) (fun Uo Qr=>?_) (hg:=wi il);refine zQ 3 ?_;refine qr (fun SM Mj=>?_) (hg:=wi il);refine qf (fo:=11) (fun PC JV=>?_) (hg:=wi il);refine zQ 1 ?_;refine qv (Cs ((Arg.of wU aP).rows hH) ((Arg.of tJ aP).rows hH) (by omega)) ?_ (hg:=wi il);refine zQ 2 ?_;refine aa.nil (aJ ?_ ?_)
   ·dsimp only[aF,List.foldl,nth,u2,u1]
    all_goals(first|rfl|simp)
   ·dsimp only[Fr.e5,Fr.put,Fr.clean,Fr.ev,Fr.get,nth,look,u1,u2,v1,v2,v4]
    all_goals(rfl)
  dsimp only[aF,List.foldl,nth,u2,u1];dsimp only[Fr.e5,Fr.put,Fr.clean,Fr.ev,Fr.get,nth,look,u1,u2,v1,v2,v4];refine zQ 7 ?_;exact⟨mm-1,by omega,⟨i+1,rfl,hH,by omega⟩⟩
 ·refine zQ 5 ?_;refine ak.ret ⟨rx,_,rfl,rl aP hH (rfl)⟩
theorem vX {s0:St} {pl:Int} {x y:D} {es fs:List (List D)} {L:List GV} (hx:V.Rows s0 12 x es) (hy:V.Rows s0 12 y fs) (tH:jf s0 es L) (MR:jf s0 fs L) (hl:L.length≤1000) (P4:∀l∈L,l.ct.length≤1000):Ev pv 94 [.agg [.int .i64 pl,x],.agg [.int .i64 pl,y]] s0 (.bool true) s0:=by
 have QJ:=fun{st:St} (hx:V.Rows st 12 x es) (hy:V.Rows st 12 y fs) (tH:jf st es L) (MR:jf st fs L)=>CK (s0:=st) hx hy tH MR (by omega) P4;have X7:=mO hx;have X6:=mO hy;refine Ev.ia rfl RG rfl rfl rfl ?_;refine zE ?_;obtain⟨aP,hF,hH⟩:=ri s0;generalize ae .ro s0=S at*;have cK:(pl==pl)=true:=by simp
 have hx:=Arg.of hx aP;have hy:=Arg.of hy aP;refine zQ 2 ?_;refine qb hH fun k2 st hk2 hH=>?_;refine qb hH fun k3 st tG hH=>?_;refine zQ 14 ?_;refine qv (QJ (hx.rows hH) (hy.rows hH) (tH.ex aP hH) (MR.ex aP hH)) ?_ (hg:=wi cK);refine zQ 3 ?_;refine ak.ret ⟨rx,_,rfl,rl aP hH (rfl)⟩
theorem mT {α:Type} (one:c8→α×c8):∀n s,(aZ one n s).1.length≤n
 |0,s=>Nat.le_refl _
 |n+1,s=>by
  unfold aZ
  split
  ·simp
  ·simp only[List.length_cons];have:=mT one n (one s).2;omega
theorem sq {α:Type} {one:c8→α×c8} {R:c8→Prop} {Q:α→Prop} (hR:∀s,R s→R (one s).2∧Q (one s).1):∀n s,R s→∀a∈(aZ one n s).1,Q a
 |0,s,_,a,ha=>by cases ha
 |n+1,s,hs,a,ha=>by
  unfold aZ at ha
  split at ha
  ·cases ha
  ·rcases List.mem_cons.1 ha with rfl|ha
   ·exact(hR s hs).2
   ·exact sq hR n _ (hR s hs).1 a ha
theorem DM {b:List UInt8} {s:c8} (h:s.at_≤b.length):(np b s).1.length≤400:=by
 obtain⟨i1,i2,i3,i4⟩:=eQ (m:=400) h;unfold np
 by_cases he:(bF b 400 s).2.e=0
 ·have:=mT (dX b) (bF b 400 s).1.toNat (bF b 400 s).2;have:=i4 he;omega
 ·rw[dQ _ he];simp
theorem zV {b:List UInt8} {s:c8} (h:s.at_≤b.length):Iz (c_ b s).1:=by
 obtain⟨i1,i2,i3,i4⟩:=eQ (m:=8) h;unfold c_
 by_cases he:(bF b 8 s).2.e=0
 ·refine⟨?_,sq (R:=fun s=>s.at_≤b.length) (fun s hs=>⟨nJ hs,rfl,DM (jA (nU hs) 10)⟩) _ _ i1⟩;have:=mT (cD b) (bF b 8 s).1.toNat (bF b 8 s).2;have:=i4 he;omega
 ·rw[dQ _ he];exact BU
structure Po (q:List UInt8×Int×List GV):Prop where
 h:q.1.length≤3
 g:Iz q.2.2
theorem Cp {b:List UInt8} {s:c8} (h:s.at_≤b.length):Po (bX b s).1:=by
 have h1:=(jN (m:=3) h)
 refine⟨?_,zV (dc h1.1).1⟩;have:((bX b s).1.1.length:Int)≤max 3 0:=h1.2;omega
theorem Ij {p:Pg} {b:List UInt8}:Po (nW p b).2∧((nW p b).1=0→dH p (nW p b).2.2.1 (nW p b).2.2.2∧(cm (nW p b).2.1=true∨(nW p b).2.1=[])):=by
 have o1:=(dc (b:=b) (s:=⟨0,0⟩) (Nat.zero_le _)).1
 have hn:Po (([]:List UInt8),(0:Int),([]:List GV)):=⟨by simp,BU⟩
 unfold nW
 split
 ·rename_i h;exact⟨hn,fun h'=>absurd h' h⟩
 ·split
  ·exact⟨hn,fun h=>by simp at h⟩
  ·split
   ·rename_i h;exact⟨hn,fun h'=>absurd h' h⟩
   ·split
    ·rename_i h;refine⟨Cp o1,fun _=>?_⟩
     by_cases hW:dH p (bX b (aX b ⟨0,0⟩).2).1.2.1 (bX b (aX b ⟨0,0⟩).2).1.2.2∧(cm (bX b (aX b ⟨0,0⟩).2).1.1=true∨(bX b (aX b ⟨0,0⟩).2).1.1=[])
     ·exact hW
     ·rw[cq hW] at h;cases h
    ·exact⟨hn,fun h=>by simp at h⟩
theorem uN {st:St} {x:D} {L:List GV} (h:IA x L):jf st (L.map f') L:=Dn.LJ (h.arg st) rfl
theorem Co {s0:St} {q:List UInt8×Int×List GV} (hq:Po q):Ev pv 31 [xk q,xk q] s0 (.bool true) s0:=by
 obtain⟨h,pl,L⟩:=q;obtain⟨h3,hg⟩:=hq;dsimp only at h3 hg;have O9:=hg.Pm;have tq:=hg.n;have U9:=fun st=>Cr (st:=st) (x:=gr h) (y:=gr h) (l:=h) (vc st h) (vc st h) (by omega);have hm:=fun st=>vX (s0:=st) (pl:=pl) (O9.sl.rows st) (O9.sl.rows st) (uN O9) (uN O9) (by omega) (fun l hl=>by have:=(hg.t l hl).2;omega);unfold xk;refine Ev.ia rfl R6 rfl rfl rfl ?_;refine zE ?_;obtain⟨aP,hF,hH⟩:=ri s0;generalize ae .ro s0=S at*;refine zQ 2 ?_;refine qb hH fun k2 st hk2 hH=>?_;refine qb hH fun k3 st tG hH=>?_;refine zQ 2 ?_;have cK:true=true:=rfl;refine zQ 6 ?_;refine qv ((U9 _)) ?_;refine zQ 2 ?_;refine aa.aL (m:=2) hH (ai rfl rfl rfl cK) (ev rfl) (by exact bV) (by dsimp only[List.drop_succ_cons,List.drop_zero,List.take_succ_cons,List.take_zero]<;>rfl) rfl rfl (ab rfl _) ?_;refine zQ 1 ?_;refine aa.aL (m:=2) hH (ai rfl rfl rfl cK) (ev rfl) (by exact aN) (by dsimp only[List.drop_succ_cons,List.drop_zero,List.take_succ_cons,List.take_zero]<;>rfl) rfl rfl (ab rfl _) ?_;refine qv ((hm _)) ?_ (hg:=wi cK);refine zQ 3 ?_;refine ak.ret ⟨rx,_,rfl,rl aP hH (rfl)⟩
end Go.Proofs.YtecjacicdpejaaaGreat
namespace Go.V
open Go.RowKit
def oY {H:Type}:DataW H→Bool
 | .agg _=>true
 |_=>false
mutual
def wW {H:Type}:DataW H→List D
 | .lit (.bool b)=>[.bool b]
 | .lit (.int k n)=>[.int k n]
 | .lit (.string l)=>[.str l]
 | .lit _=>[.bj]
 | .nil=>[.nul]
 | .slice elems _=>[.sl (wF elems)]
 | .agg parts=>lQ parts
 | .ptr _=>[.bj]
 | .iface _ _=>[.bj]
 | .map _=>[.bj]
 | .held _=>[.bj]
def wF {H:Type}:List (DataW H)→List D
 |[]=>[]
 |d::r=>(if oY d then .agg (wW d) else(wW d).headD .bj)::wF r
def lQ {H:Type}:List (DataW H)→List D
 |[]=>[]
 |d::r=>wW d++lQ r
end
def jk {H:Type} (d:DataW H):D:=if oY d then .agg (wW d) else(wW d).headD .bj
theorem sY {H:Type}:∀l:List (DataW H),wF l=l.map jk
 |[]=>rfl
 |d::r=>by simp only[wF,List.map_cons,sY r];rfl
def sZ (P:Program):Nat→List Field→Option Nat
 |o,[]=>some o
 |o,f::fs=>if f.offset=o then sZ P (o+P.cellsOf f.type) fs else none
def Ha (P:Program):Nat→TypeId→Bool
 |0,_=>false
 |n+1,t=>match P.underlying t with
  |some .bool=>true
  |some (.int _)=>true
  |some .string=>true
  |some (.slice e)=>Ha P n e &&decide (0<P.cellsOf e)
  |some (.struct fs)=>(sZ P 0 fs.toList==some (P.cellsOf t)) &&fs.toList.all fun f=>Ha P n f.type
  |some (.array m e)=>Ha P n e &&(P.cellsOf t==m*P.cellsOf e)
  |_=>false
structure CR (w:World) (Z:Nat→Prop) (cs:List D) (vs:List Value):Prop where
 len:cs.length=vs.length
 one:∀v∈vs,v.oneCell'=true
 onec:∀c∈cs,c.cells?=some [c]
 rel:∀(i:Nat) c v,cs[i]?=some c→vs[i]?=some v→IR w Z c v
theorem CR.nil {w:World} {Z:Nat→Prop}:CR w Z [] []:=⟨rfl,by simp,by simp,by simp⟩
theorem CR.single {w:World} {Z:Nat→Prop} {c:D} {v:Value} (h:IR w Z c v) (h1:v.oneCell'=true) (h2:c.cells?=some [c]):CR w Z [c] [v]:=
 ⟨rfl,by simpa using h1,by simpa using h2,fun i c' v' hc hv=>by
  cases i with
  |zero=>simp at hc hv;subst hc;subst hv;exact h
  |succ i=>simp at hc⟩
theorem CR.append {w:World} {Z:Nat→Prop} {cs cs':List D} {vs Li:List Value} (h:CR w Z cs vs) (g:CR w Z cs' Li):CR w Z (cs++cs') (vs++Li):=by
 refine⟨by simp[h.len,g.len],fun v hv=>?_,fun c hc=>?_,fun i c v hc hv=>?_⟩
 ·rcases List.mem_append.1 hv with hv|hv
  ·exact h.one v hv
  ·exact g.one v hv
 ·rcases List.mem_append.1 hc with hc|hc
  ·exact h.onec c hc
  ·exact g.onec c hc
 ·rw[List.getElem?_append] at hc hv;have:=h.len
  split at hc
  ·rw[if_pos (by omega)] at hv;exact h.rel i c v hc hv
  ·rw[if_neg (by omega)] at hv;rw[←this] at hv;exact g.rel _ c v hc hv
theorem xI {H:Type} {P:Program} {w:World} {Z:Nat→Prop} {f:Field→Option (DataW H×List MemPlace)} {cs:List Value}:∀{fs:List Field} {o e:Nat} {xs:List (DataW H×List MemPlace)},sZ P o fs=some e→e≤cs.length→fs.mapM f=some xs→
  (∀g∈fs,∀x,f g=some x→CR w Z (wW x.1) ((cs.drop g.offset).take (P.cellsOf g.type)))→CR w Z (lQ (xs.map (·.1))) ((cs.drop o).take (e-o))∧o≤e
 |[],o,e,xs,hc,_,hm,_=>by
  simp[sZ] at hc;subst hc;simp at hm;subst hm;simp[lQ];exact CR.nil
 |g::fs,o,e,xs,hc,he,hm,hx=>by
  simp only[sZ] at hc
  split at hc
  ·rename_i ho;rw[List.mapM_cons] at hm
   cases h1:f g with
   |none=>rw[h1] at hm;simp at hm
   |some x=>
    rw[h1] at hm
    cases h2:fs.mapM f with
    |none=>rw[h2] at hm;simp at hm
    |some ys=>
     rw[h2] at hm;simp at hm;subst hm;obtain⟨ih,hle⟩:=xI hc he h2 fun g' Wl=>hx g' (List.mem_cons_of_mem _ Wl);have hg:=hx g (List.mem_cons_self ..) x h1;rw[ho] at hg;refine⟨?_,by omega⟩;simp only[List.map_cons,lQ]
     have:(cs.drop o).take (e-o)=(cs.drop o).take (P.cellsOf g.type)++(cs.drop (o+P.cellsOf g.type)).take (e-(o+P.cellsOf g.type)):=by
      rw[←List.drop_drop,show e-o=P.cellsOf g.type+(e-(o+P.cellsOf g.type)) by omega,List.take_add]
     rw[this];exact hg.append ih
  ·cases hc
theorem yE {H:Type} {w:World} {Z:Nat→Prop} {s:Nat} {f:Nat→Option (DataW H×List MemPlace)} {cs:List Value}:∀{m k:Nat} {xs:List (DataW H×List MemPlace)},(List.range' k m).mapM f=some xs→(k+m)*s≤cs.length→
  (∀i x,f i=some x→CR w Z (wW x.1) ((cs.drop (i*s)).take s))→CR w Z (lQ (xs.map (·.1))) ((cs.drop (k*s)).take (m*s))
 |0,k,xs,hm,_,_=>by simp at hm;subst hm;simp[lQ];exact CR.nil
 |m+1,k,xs,hm,hl,hx=>by
  rw[List.range'_succ,List.mapM_cons] at hm
  cases h1:f k with
  |none=>rw[h1] at hm;simp at hm
  |some x=>
   rw[h1] at hm
   cases h2:(List.range' (k+1) m).mapM f with
   |none=>rw[h2] at hm;simp at hm
   |some ys=>
    rw[h2] at hm;simp at hm;subst hm;have ih:=yE h2 (by rw[show k+1+m=k+(m+1) by omega];exact hl) hx;simp only[List.map_cons,lQ];rw[show(m+1)*s=s+m*s by rw[Nat.add_mul];omega,List.take_add,List.drop_drop,show k*s+s=(k+1)*s by rw[Nat.add_mul];omega];exact(hx k x h1).append ih
theorem cells_one {c:D} (h:c.cells?=some [c]):c.cells=[c]:=by
 cases c<;>first|rfl|cases h|(simp only[D.cells?,Option.some.injEq] at h;simpa only[D.cells] using h)
theorem yY (b off n:Nat):(⟨b,off,none⟩:Addr).add n=⟨b,off+n,none⟩:=by
 cases n<;>simp[Addr.add]
theorem qG {H:Type} {enc:TypeId×Value→H} {P:Program} {w:World} {spare:Nat→Bool} {held:Bool}:∀(fuel:Nat) (t:TypeId) (cs:List Value) (d:DataW H) (ps:List MemPlace) (n:Nat),DataW.trod enc P w 0 spare held fuel t cs=some (d,ps)→Ha P n t=true→
  CR w (fun b=>b<w.heap.size) (wW d) cs∧cs.length=(match P.underlying t with|some (.struct _)|some (.array _ _)=>P.cellsOf t|_=>1)∧(oY d=(match P.underlying t with|some (.struct _)|some (.array _ _)=>true|_=>false))
 |0,t,cs,d,ps,n,h,_=>by simp[DataW.trod] at h
 |fuel+1,t,cs,d,ps,0,h,ht=>by simp[Ha] at ht
 |fuel+1,t,cs,d,ps,n+1,h,ht=>by
  simp only[Ha] at ht;unfold DataW.trod at h
  cases hu:P.underlying t with
  |none=>rw[hu] at ht;simp at ht
  |some u=>
   rw[hu] at h ht
   cases u with
   |bool=>
    rcases cs with _|⟨v,_|⟨v2,cs⟩⟩<;>try(simp at h;done)
    cases v<;>simp at h
    obtain⟨rfl,rfl⟩:=h;exact⟨CR.single (.bool _) rfl rfl,rfl,rfl⟩
   |int k=>
    rcases cs with _|⟨v,_|⟨v2,cs⟩⟩<;>try(simp at h;done)
    cases v<;>simp at h
    obtain⟨⟨rfl,_⟩,rfl,rfl⟩:=h;exact⟨CR.single (.int _ _) rfl rfl,rfl,rfl⟩
   |string=>
    rcases cs with _|⟨v,_|⟨v2,cs⟩⟩<;>try(simp at h;done)
    cases v<;>simp at h
    rename_i b;obtain⟨_,rfl,rfl⟩:=h;refine⟨CR.single ?_ rfl rfl,rfl,rfl⟩;have:=IR.str (w:=w) (Z:=fun b=>b<w.heap.size) b.data.toList
    simpa using this
   |slice e=>
    simp only[Bool.and_eq_true,decide_eq_true_eq] at ht
    rcases cs with _|⟨v,_|⟨v2,cs⟩⟩<;>try(simp at h;done)
    cases v<;>try(simp at h;done)
    rename_i a len cap
    cases a with
    |none=>
     cases len<;>cases cap<;>simp at h
     obtain⟨rfl,rfl⟩:=h;exact⟨CR.single .nul rfl rfl,rfl,rfl⟩
    |some a=>
     simp only at h
     split at h
     ·rename_i hc;simp only[Option.bind_eq_some_iff,Option.map_eq_some_iff] at h;obtain⟨elems,he,rest,hr,hd⟩:=h;cases hd;refine⟨?_,rfl,rfl⟩;have hlen:elems.length=len:=by simpa using mapM_some_length he
      have hget:=mapM_some_get he
      have each:∀(i:Nat),i<len→∃x cs,elems[i]?=some x∧w.cells? 0 (a.add (i*P.cellsOf e)) (P.cellsOf e)=some cs∧CR w (fun b=>b<w.heap.size) (wW x.1) cs∧cs.length=P.cellsOf e∧(oY x.1=(match P.underlying e with|some (.struct _)|some (.array _ _)=>true|_=>false))∧cs.length=(match P.underlying e with|some (.struct _)|some (.array _ _)=>P.cellsOf e|_=>1):=by
       intro i hi;have h1:=hget i i (by simp[hi]);have h2:elems[i]?=some (elems[i]'(by omega)):=List.getElem?_eq_getElem _;rw[h2] at h1;obtain⟨cs,lf,hx⟩:=Option.bind_eq_some_iff.1 h1;obtain⟨q1,q2,q3⟩:=qG fuel e cs _ _ n hx ht.1;exact⟨_,cs,h2,lf,q1,(World.cells?_some lf).2.1,q3,q2⟩
      refine CR.single ?_ rfl rfl
      cases len with
      |zero=>
       have:elems=[]:=by cases elems with|nil=>rfl|cons _ _=>simp at hlen
       subst this;exact .emp _ _
      |succ m=>
       have nb:a.spot=none∧a.block<w.heap.size:=by
        obtain⟨x,cs,_,h2,_,_⟩:=each 0 (by omega);refine⟨?_,?_⟩
        ·have:=(World.cells?_some h2).2.2 0 ht.2;have hl:=(World.cells?_some h2).2.1
         obtain⟨c0,MZ⟩:∃c0,cs[0]?=some c0:=⟨cs[0]'(by omega),List.getElem?_eq_getElem _⟩
         rw[MZ] at this
         simpa[Addr.add] using World.cell?_spot this
        ·simpa[Addr.add] using World.cells?_block h2 ht.2
       obtain⟨b,off,spot⟩:=a;simp only at nb;obtain⟨rfl,hb⟩:=nb
       have hcell:∀(i j:Nat),i<m+1→j<P.cellsOf e→∃x cs v,elems[i]?=some x∧cs[j]?=some v∧w.cell? ⟨b,off+(i*P.cellsOf e+j),none⟩=some v∧CR w (fun b=>b<w.heap.size) (wW x.1) cs:=by
        intro i j hi hj;obtain⟨x,cs,h1,h2,h3,h4,_⟩:=each i hi;have:=(World.cells?_some h2).2.2 j hj
        obtain⟨v,hv⟩:∃v,cs[j]?=some v:=⟨cs[j]'(by omega),List.getElem?_eq_getElem _⟩
        rw[hv] at this;refine⟨x,cs,v,h1,hv,?_,h3⟩;rw[←this,yY,yY,Nat.add_assoc]
       have tH:(wF (elems.map (·.1)))=elems.map fun x=>jk x.1:=by rw[sY,List.map_map];rfl
       have hE:∀(i:Nat) q,(wF (elems.map (·.1)))[i]?=some q→∃x cs,i<m+1∧elems[i]?=some x∧q.cells?=some q.cells∧q.cells=wW x.1∧CR w (fun b=>b<w.heap.size) (wW x.1) cs∧cs.length=P.cellsOf e:=by
        intro i q hq;rw[tH,List.getElem?_map] at hq;obtain⟨x,hx,rfl⟩:=Option.map_eq_some_iff.1 hq
        have hi:i<m+1:=by
         rcases Nat.lt_or_ge i (m+1) with h'|h'
         ·exact h'
         ·rw[List.getElem?_eq_none (by omega)] at hx;cases hx
        obtain⟨x',cs,h1,h2,h3,h4,h5,h6⟩:=each i hi;rw[hx] at h1;cases h1;refine⟨x,cs,hi,hx,?_,?_,h3,h4⟩
        ·unfold jk
         split
         ·rfl
         ·rename_i IW
          have wm:(wW x.1).length=1:=by
           rw[h3.len,h6];rw[h5] at IW
           revert IW
           split<;>simp
          match hd:wW x.1,wm with
          |[c],_=>have:=h3.onec c (by rw[hd];simp);simp only[List.headD_cons];rw[cells_one this];exact this
        ·unfold jk
         split
         ·rfl
         ·rename_i IW
          have wm:(wW x.1).length=1:=by
           rw[h3.len,h6];rw[h5] at IW
           revert IW
           split<;>simp
          match hd:wW x.1,wm with
          |[c],_=>have:=h3.onec c (by rw[hd];simp);simp only[List.headD_cons];exact cells_one this
       have hL:(wF (elems.map (·.1))).length=m+1:=by rw[tH];simp[hlen]
       have hf:=fun(i j:Nat) (hi:i<m+1) (hj:j<P.cellsOf e)=>hcell i j hi hj;have:=IR.sl (w:=w) (Z:=fun b=>b<w.heap.size) (wF (elems.map (·.1))) b off cap (P.cellsOf e) (fun i j=>(w.cell? ⟨b,off+(i*P.cellsOf e+j),none⟩).getD undef) hb (by rw[hL];exact hc.2.1)
        (fun i q hq=>by
         obtain⟨x,cs,h1,h2,h3,h4,h5,h6⟩:=hE i q hq
         exact⟨h3,by rw[h4,h5.len,h6]⟩)
        (fun i q j c hq hj=>by
         obtain⟨x,cs,h1,h2,h3,h4,h5,h6⟩:=hE i q hq
         have oo:j<P.cellsOf e:=by
          rcases Nat.lt_or_ge j (P.cellsOf e) with h'|h'
          ·exact h'
          ·rw[h4,List.getElem?_eq_none (by rw[h5.len,h6];exact h')] at hj;cases hj
         obtain⟨x',cs',v,g1,g2,g3,g4⟩:=hf i j h1 oo;rw[g3]
         exact⟨rfl,g4.one v (List.mem_of_getElem? g2)⟩)
        (fun i q j c hq hj=>by
         obtain⟨x,cs,h1,h2,h3,h4,h5,h6⟩:=hE i q hq
         have oo:j<P.cellsOf e:=by
          rcases Nat.lt_or_ge j (P.cellsOf e) with h'|h'
          ·exact h'
          ·rw[h4,List.getElem?_eq_none (by rw[h5.len,h6];exact h')] at hj;cases hj
         obtain⟨x',cs',v,g1,g2,g3,g4⟩:=hf i j h1 oo;rw[g3];rw[h2] at g1;cases g1
         exact g4.rel j c v (by rw[←h4];exact hj) g2)
       rw[hL] at this;exact this
     ·cases h
   |struct fs=>
    simp only[Bool.and_eq_true,beq_iff_eq,List.all_eq_true] at ht;simp only at h
    split at h
    ·rename_i hl;obtain⟨xs,hx,hd⟩:=Option.map_eq_some_iff.1 h;cases hd;refine⟨?_,hl,rfl⟩;obtain⟨h1,_⟩:=xI (w:=w) (Z:=fun b=>b<w.heap.size) (cs:=cs) ht.1 (by omega) hx fun g hg x Wg=>(qG fuel g.type _ _ _ n Wg (ht.2 g hg)).1;rw[List.drop_zero,Nat.sub_zero,←hl,List.take_length] at h1;exact h1
    ·cases h
   |array m e=>
    simp only[Bool.and_eq_true,beq_iff_eq] at ht;simp only at h
    split at h
    ·rename_i hl;obtain⟨xs,hx,hd⟩:=Option.map_eq_some_iff.1 h;cases hd;refine⟨?_,hl,rfl⟩;rw[List.range_eq_range'] at hx;have h1:=yE (w:=w) (Z:=fun b=>b<w.heap.size) (s:=P.cellsOf e) (cs:=cs) hx (by rw[Nat.zero_add,←ht.2,hl];exact Nat.le_refl _) fun i x TA=>(qG fuel e _ _ _ n TA ht.1).1;rw[Nat.zero_mul,List.drop_zero,←ht.2,←hl,List.take_length] at h1;exact h1
    ·cases h
   |_=>simp at ht
theorem A4 {H:Type} {enc:TypeId×Value→H} {P:Program} {w:World} {spare:Nat→Bool} {held:Bool} {r:Reach} {base:Nat} {t:TypeId} {v:Value} {d:DataW H} {ps:List MemPlace} {n:Nat} (h:DataW.Trod enc P w 0 spare held t v d ps) (ht:Ha P n t=true) (hv:Value.okWide P w r base t v):
  IR w (fun b=>b<w.heap.size) (jk d) v:=by
 obtain⟨fuel,hf⟩:=h;obtain⟨h1,h2,h3⟩:=qG fuel t _ d ps n hf ht
 have hu:∃u,P.underlying t=some u:=by
  cases n with
  |zero=>simp[Ha] at ht
  |succ n=>
   simp only[Ha] at ht
   cases hu:P.underlying t with
   |none=>rw[hu] at ht;simp at ht
   |some u=>exact⟨u,rfl⟩
 obtain⟨u,hu⟩:=hu;unfold Value.okWide at hv;rw[hu] at hv h2 h3
 have M7:(∃cs:Array Value,v=.agg cs)→oY d=true→IR w (fun b=>b<w.heap.size) (jk d) v:=by
  rintro⟨cs,rfl⟩ hd;unfold jk;rw[if_pos hd];have:=IR.agg (w:=w) (Z:=fun b=>b<w.heap.size) (wW d) cs.toList (by simpa[Value.cells] using h1.len) (by simpa[Value.cells] using h1.one) (by simpa[Value.cells] using h1.rel)
  simpa using this
 have kD:oY d=false→v.cells.toList.length=1→(∀cs,v≠.agg cs)→IR w (fun b=>b<w.heap.size) (jk d) v:=by
  intro hd hl IW;unfold jk;rw[if_neg (by rw[hd];simp)]
  have hc:v.cells.toList=[v]:=by cases v<;>first|rfl|exact absurd rfl (IW _)
  rw[hc] at h1
  match hq:wW d,h1.len with
  |[c],_=>exact h1.rel 0 c v (by rw[hq];rfl) rfl
 have hcell:Cell.okWide P w r base t v→∀cs,v≠.agg cs:=by
  rintro hc cs rfl;unfold Cell.okWide at hc;rw[hu] at hc;cases u<;>simp[Cell.ok,hu] at hc
 cases u with
 |struct fs=>obtain⟨cs,h,_⟩:=hv;exact M7 ⟨cs,h⟩ h3
 |array m e=>obtain⟨cs,h,_⟩:=hv;exact M7 ⟨cs,h⟩ h3
 |_=>exact kD h3 h2 (hcell hv)
end Go.V
namespace Go.V
open Go.RowKit
theorem wf_u8 {n:Int} (h:(Lit.int .u8 n).wf=true):∃y:UInt8,n=(y.toNat:Nat):=by
 have:0≤n∧n≤255:=by simpa[Lit.wf,IntKind.min,IntKind.max,IntKind.signed,IntKind.bits] using h
 refine⟨UInt8.ofNat n.toNat,?_⟩;rw[show(UInt8.ofNat n.toNat).toNat=n.toNat %256 from rfl];omega
theorem CL {pv:Pv} {P:Program} (h:pv.Ok P∧pv.i_∧iu P pv (ek pv)) {f:Nat} {ds:List D} {ah:St} (hs:Ev pv f ds ⟨[],0,0⟩ (.bool true) ah) {w:World} {us:List Value} (hl:ds.length=us.length)
  (hr:∀(i:Nat) c v,ds[i]?=some c→us[i]?=some v→IR w (fun b=>b<w.heap.size) c v):Calls P f us.toArray w fun e w'=>e=.returned (.bool true)∧Below w.heap.size w w':=by
 obtain⟨N,hN⟩:=Ev.out hs;refine(sound h (hN N (Nat.le_refl _)) (w:=w) (Z:=fun b=>b<w.heap.size) (fun _ h=>h) hl hr).mono fun e w'=>?_;rintro⟨v,β',Z',rfl,he,hv⟩;rw[ef hv];exact⟨rfl,⟨he.os,he.tape,he.output,he.size,fun k hk=>he.block k hk fun f=>f⟩⟩
end Go.V
namespace Go.V
open Go.RowKit
def Rd {H:Type} (enc:TypeId×Value→H) (P:Program) (w:World) (spare:Nat→Bool) (held:Bool) (t:TypeId) (d:DataW H):Prop:=
 ∃fuel cs ps,DataW.trod enc P w 0 spare held fuel t cs=some (d,ps)
section
variable{H:Type} {enc:TypeId×Value→H} {P:Program} {w:World} {spare:Nat→Bool} {held:Bool} {t e:TypeId} {d:DataW H}
theorem Rd.of {v:Value} {ps:List MemPlace} (h:DataW.Trod enc P w 0 spare held t v d ps):Rd enc P w spare held t d:=by
 obtain⟨fuel,h⟩:=h;exact⟨fuel,_,_,h⟩
theorem Rd.int {k:IntKind} (h:Rd enc P w spare held t d) (ht:P.underlying t=some (.int k)):∃n:Int,d=.lit (.int k n)∧(Lit.int k n).wf=true:=by
 obtain⟨fuel,cs,ps,h⟩:=h
 cases fuel with
 |zero=>simp[DataW.trod] at h
 |succ fuel=>
  unfold DataW.trod at h;rw[ht] at h
  rcases cs with _|⟨v,_|⟨v2,cs⟩⟩<;>try(simp at h;done)
  cases v<;>simp at h
  obtain⟨⟨rfl,hw⟩,rfl,_⟩:=h;exact⟨_,rfl,hw⟩
theorem Rd.bool (h:Rd enc P w spare held t d) (ht:P.underlying t=some .bool):∃b:Bool,d=.lit (.bool b):=by
 obtain⟨fuel,cs,ps,h⟩:=h
 cases fuel with
 |zero=>simp[DataW.trod] at h
 |succ fuel=>
  unfold DataW.trod at h;rw[ht] at h
  rcases cs with _|⟨v,_|⟨v2,cs⟩⟩<;>try(simp at h;done)
  cases v<;>simp at h
  obtain⟨rfl,_⟩:=h;exact⟨_,rfl⟩
theorem Rd.string (h:Rd enc P w spare held t d) (ht:P.underlying t=some .string):∃l:List UInt8,d=.lit (.string l):=by
 obtain⟨fuel,cs,ps,h⟩:=h
 cases fuel with
 |zero=>simp[DataW.trod] at h
 |succ fuel=>
  unfold DataW.trod at h;rw[ht] at h
  rcases cs with _|⟨v,_|⟨v2,cs⟩⟩<;>try(simp at h;done)
  cases v<;>simp at h
  obtain⟨_,rfl,_⟩:=h;exact⟨_,rfl⟩
theorem Rd.slice (h:Rd enc P w spare held t d) (ht:P.underlying t=some (.slice e)):d=.nil∨∃elems rest,d=.slice elems rest∧∀x∈elems,Rd enc P w spare held e x:=by
 obtain⟨fuel,cs,ps,h⟩:=h
 cases fuel with
 |zero=>simp[DataW.trod] at h
 |succ fuel=>
  unfold DataW.trod at h;rw[ht] at h
  rcases cs with _|⟨v,_|⟨v2,cs⟩⟩<;>try(simp at h;done)
  cases v<;>try(simp at h;done)
  rename_i a len cap
  cases a with
  |none=>
   cases len<;>cases cap<;>simp at h
   obtain⟨rfl,rfl⟩:=h;exact .inl rfl
  |some a=>
   simp only at h
   split at h
   ·simp only[Option.bind_eq_some_iff,Option.map_eq_some_iff] at h;obtain⟨elems,hm,rest,hr,hd⟩:=h;cases hd;refine .inr ⟨_,_,rfl,fun x hx=>?_⟩;obtain⟨y,hy,rfl⟩:=List.mem_map.1 hx;have hlen:elems.length=len:=by simpa using mapM_some_length hm
    have hget:=mapM_some_get hm;obtain⟨i,hi⟩:=List.getElem?_of_mem hy;have hil:i<len:=by have:=bo hi;omega
    have h1:=hget i i (by simp[hil]);rw[hi] at h1;obtain⟨cs,_,hx⟩:=Option.bind_eq_some_iff.1 h1;exact⟨fuel,cs,y.2,hx⟩
   ·cases h
theorem oR {α β:Type} {f:α→Option β}:∀{l:List α} {m:List β},l.mapM f=some m→cy (fun a b=>f a=some b) l m
 |[],m,h=>by simp at h;subst h;exact .nil
 |a::l,m,h=>by
  rw[List.mapM_cons] at h
  cases h1:f a with
  |none=>rw[h1] at h;simp at h
  |some b=>
   rw[h1] at h
   cases h2:l.mapM f with
   |none=>rw[h2] at h;simp at h
   |some ys=>rw[h2] at h;simp at h;subst h;exact .cons h1 (oR h2)
theorem cy.LI {α β γ:Type} {R:α→γ→Prop} {f:β→γ}:∀{l:List α} {m:List β},cy (fun a b=>R a (f b)) l m→cy R l (m.map f)
 |_,_,.nil=>.nil
 |_,_,.cons a t=>.cons a t.LI
theorem Rd.struct {fs:Array Field} (h:Rd enc P w spare held t d) (ht:P.underlying t=some (.struct fs)):∃parts,d=.agg parts∧cy (fun(f:Field) x=>Rd enc P w spare held f.type x) fs.toList parts:=by
 obtain⟨fuel,cs,ps,h⟩:=h
 cases fuel with
 |zero=>simp[DataW.trod] at h
 |succ fuel=>
  unfold DataW.trod at h;rw[ht] at h;simp only at h
  split at h
  ·obtain⟨xs,hx,hd⟩:=Option.map_eq_some_iff.1 h;cases hd;refine⟨_,rfl,?_⟩;exact((oR hx).mono fun f x Wm=>(⟨fuel,_,_,Wm⟩:Rd enc P w spare held f.type x.1)).LI
  ·cases h
theorem Rd.array {n:Nat} (h:Rd enc P w spare held t d) (ht:P.underlying t=some (.array n e)):∃parts,d=.agg parts∧parts.length=n∧∀x∈parts,Rd enc P w spare held e x:=by
 obtain⟨fuel,cs,ps,h⟩:=h
 cases fuel with
 |zero=>simp[DataW.trod] at h
 |succ fuel=>
  unfold DataW.trod at h;rw[ht] at h;simp only at h
  split at h
  ·obtain⟨xs,hx,hd⟩:=Option.map_eq_some_iff.1 h;cases hd;have h1:=oR hx;refine⟨_,rfl,by have:=h1.len;simp at this;simp[←this],fun x PZ=>?_⟩;obtain⟨y,hy,rfl⟩:=List.mem_map.1 PZ
   have key:∀{l:List Nat} {m:List (DataW H×List MemPlace)},cy (fun i x=>DataW.trod enc P w 0 spare held fuel e ((cs.drop (i*P.cellsOf e)).take (P.cellsOf e))=some x) l m→∀y∈m,Rd enc P w spare held e y.1:=by
    intro l m h
    induction h with
    |nil=>intro y hy;cases hy
    |cons a t ih=>
     intro y hy
     rcases List.mem_cons.1 hy with rfl|hy
     ·exact⟨fuel,_,_,a⟩
     ·exact ih y hy
   exact key h1 y hy
  ·cases h
end
theorem IC {H α:Type} {s:Nat} {f:α→List D} {Q:α→DataW H→Prop} {elems rest:List (DataW H)} (h:∀x∈elems,∃a,(jk x).cells?=some (jk x).cells∧(jk x).cells=f a∧(f a).length=s∧Q a x):
  ∃ws:List α,gd (jk (.slice elems rest)) s (ws.map f)∧ws.length=elems.length∧∀a∈ws,∃x∈elems,Q a x:=by
 have key:∃ws:List α,(elems.map jk).map D.cells=ws.map f∧(∀d∈elems.map jk,d.cells?=some d.cells∧d.cells.length=s)∧ws.length=elems.length∧∀a∈ws,∃x∈elems,Q a x:=by
  induction elems with
  |nil=>exact⟨[],rfl,fun d hd=>(by cases hd),rfl,fun a ha=>by cases ha⟩
  |cons x l ih=>
   obtain⟨ws,h1,h2,h3,h4⟩:=ih fun y hy=>h y (List.mem_cons_of_mem _ hy);obtain⟨a,g1,g2,g3,g4⟩:=h x (List.mem_cons_self ..);refine⟨a::ws,by simp only[List.map_cons,h1,g2],fun d hd=>?_,by simp[h3],fun b hb=>?_⟩
   ·simp only[List.map_cons,List.mem_cons] at hd
    rcases hd with rfl|hd
    ·exact⟨g1,by rw[g2];exact g3⟩
    ·exact h2 d hd
   ·rcases List.mem_cons.1 hb with rfl|hb
    ·exact⟨x,List.mem_cons_self ..,g4⟩
    ·obtain⟨y,hy,hq⟩:=h4 b hb;exact⟨y,List.mem_cons_of_mem _ hy,hq⟩
 obtain⟨ws,h1,h2,h3,h4⟩:=key;refine⟨ws,.inr ⟨elems.map jk,?_,h1,h2⟩,h3,h4⟩;show D.sl (wF elems)=_;rw[sY]
end Go.V
namespace Go.Proofs.YtecjacicdpejaaaGreat
theorem Gg {H:Type} (d:DataW H):1≤Rows.uptoBulk d:=by
 cases d with
 |lit l=>cases l<;>simp[Rows.uptoBulk]
 |_=>simp[Rows.uptoBulk]
theorem yS {H:Type} (l:List (DataW H)):l.length≤Rows.uptoBulkAll l:=by
 induction l with
 |nil=>simp[Rows.uptoBulkAll]
 |cons x r ih=>have:=Gg x;simp only[Rows.uptoBulkAll,List.length_cons];omega
end Go.Proofs.YtecjacicdpejaaaGreat
namespace Go.Proofs.YtecjacicdpejaaaGreat
open Go.V Go Go.RowKit
variable{H:Type} {enc:TypeId×Value→H} {w:World} {spare:Nat→Bool} {held:Bool} {d:DataW H}
theorem Gh {H:Type} {l:List (DataW H)} {x:DataW H} (h:x∈l):Rows.uptoBulk x≤Rows.uptoBulkAll l:=by
 induction l with
 |nil=>cases h
 |cons y l ih=>
  simp only[Rows.uptoBulkAll]
  rcases List.mem_cons.1 h with rfl|h
  ·omega
  ·have:=ih h;omega
end Go.Proofs.YtecjacicdpejaaaGreat
namespace Go.Proofs.YtecjacicdpejaaaGreat
open Go.V Go Go.RowKit
variable{H:Type} {enc:TypeId×Value→H} {w:World} {spare:Nat→Bool} {held:Bool} {d:DataW H}
theorem Gm (h:Rd enc Tryz.prog w spare held 22 d):∃(y:D) (ps:List (List UInt8)),jk d=y∧gd y 1 (ps.map zc)∧(Rows.uptoBulk d≤1048576→ps.length≤1048576∧∀b∈ps,b.length≤1048576):=by
 rcases h.slice Tryz.underlying22 with rfl|⟨elems,rest,rfl,he⟩
 ·exact⟨_,[],rfl,.inl ⟨rfl,rfl⟩,fun _=>⟨by simp,fun b hb=>(by cases hb)⟩⟩
 ·obtain⟨l,h1,h2,h3⟩:=IC (s:=1) (f:=zc) (Q:=fun(b:List UInt8) x=>b.length≤Rows.uptoBulk x) (rest:=rest) fun x hx=>by
   obtain⟨b,rfl⟩:=(he x hx).string Tryz.underlying9;refine⟨b,rfl,rfl,rfl,?_⟩;simp only[Rows.uptoBulk];omega
  refine⟨_,l,rfl,h1,fun hb=>⟨?_,fun b dW=>?_⟩⟩
  ·have:=yS elems;simp only[Rows.uptoBulk] at hb;omega
  ·obtain⟨x,hx,h4⟩:=h3 b dW;have:=Gh hx;simp only[Rows.uptoBulk] at hb;omega
end Go.Proofs.YtecjacicdpejaaaGreat
namespace Go.Proofs.YtecjacicdpejaaaGreat
open Go.V Go Go.RowKit
variable{H:Type} {enc:TypeId×Value→H} {w:World} {spare:Nat→Bool} {held:Bool} {d:DataW H}
theorem Iv (h:Rd enc Tryz.prog w spare held 23 d):∃(y:D) (b:List UInt8),jk d=y∧gd y 1 (byteCells b)∧(Rows.uptoBulk d≤1048576→b.length≤1048576):=by
 rcases h.slice Tryz.underlying23 with rfl|⟨elems,rest,rfl,he⟩
 ·exact⟨_,[],rfl,.inl ⟨rfl,rfl⟩,fun _=>by simp⟩
 ·obtain⟨l,h1,h2,_⟩:=IC (s:=1) (f:=fun c:UInt8=>[.int .u8 (c.toNat:Nat)]) (Q:=fun _ _=>True) (rest:=rest) fun x hx=>by
   obtain⟨n,rfl,hw⟩:=(he x hx).int Tryz.underlying5;obtain⟨c,rfl⟩:=wf_u8 hw;exact⟨c,rfl,rfl,rfl,trivial⟩
  refine⟨_,l,rfl,h1,fun hb=>?_⟩;have:=yS elems;simp only[Rows.uptoBulk] at hb;omega
end Go.Proofs.YtecjacicdpejaaaGreat
