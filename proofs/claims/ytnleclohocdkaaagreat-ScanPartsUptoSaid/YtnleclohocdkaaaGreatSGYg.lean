/-
 A machine is made.
-/
import Derived.Test.YtnleclohocdkaaaGreatSGHr
import Derived.Test.YtnleclohocdkaaaGreatSGUa
import Derived.Test.YtnleclohocdkaaaGreatSGCa
import Derived.Test.YtnleclohocdkaaaGreatSM2
set_option maxRecDepth 100000
set_option maxHeartbeats 4000000
set_option linter.unusedSimpArgs false
set_option linter.unusedVariables false
namespace Go.Proofs.YtnleclohocdkaaaGreat
open Go.V Go
def du (fr:Go.V.Fr) (k:Nat):Go.V.D:=Go.V.nth .junk fr.loc k
structure i_ (p q:Pg):Prop where
 ok:q.ok
 code:q.code=p.code.map cQ
 ah:q.ah=p.ah
theorem Ck {s0:St} {p:Pg} (hp:p.ok):∃d,Ev pv 97 [p.d] s0 d s0∧∃q:Pg,d=q.d∧i_ p q:=by
 refine Ev.CD rfl OQ rfl rfl rfl ?_;refine zE ?_;obtain⟨hSb,hF,hH⟩:=ri s0;generalize enterSt .ro s0=S at*;have hc:=hp.c.arg s0.bs.length S;have hs:=hp.s.arg s0.bs.length S;have hlen:=hp.cl;have JM:=hp.sl;unfold Pg.d;refine zQ 2 ?_;refine qb hH fun k1 st kV hH=>?_;dsimp only[u2,u1,u3,u4,setMany,u5,u6,D.cells,Nat.reduceAdd,Pg.cs,aB,ai] at hH;refine qa hH fun k2 st hk2 hH=>?_;refine zQ 1 ?_;have hH:=hH.nulE 1;refine zQ 4 ?_;refine qP hH at0 (Arg.rows (by assumption) hH) fun x8 st hH=>?_;dsimp only[u2,u1,u3,u4,setMany,u5,u6,D.cells,Nat.reduceAdd,Pg.cs,aB,ai] at hH;refine EvO.eE (qs:=[(1,_)]) rfl rfl rfl rfl ⟨rfl,(ev rfl),(by exact hH.ocells (by exact at0)),trivial⟩ (by intro q hq;simp only[List.mem_cons,List.not_mem_nil,or_false] at hq;rcases hq with rfl<;>exact⟨rfl,by exact Nat.le_of_ble_eq_true rfl⟩) (by show List.foldl _ [_,_] _=_;dsimp only[List.foldl_cons,List.foldl_nil,u2,u1]<;>rfl) (by dsimp only[Fr.put,u1,u2]<;>rfl) ?_;refine qa hH fun k3 st BB hH=>?_;refine qS hH at0 fun st hH=>?_;dsimp only[u2,u1,u3,u4,setMany,u5,u6,D.cells,Nat.reduceAdd,Pg.cs,aB,ai] at hH;refine zQ 1 ?_;have hH:=hH.Jk 4;refine zQ 5 ?_;refine qn ?_;simp only[List.length_map];refine zQ 3 ?_;refine EvC.loop (fun mm fr st=>∃(i:Nat) (y:D) (ks:Nat→Prop),fr.clean=⟨14,[du fr 0,.ptr k1 0 0,.ptr k2 0 0,.ptr k3 0 0,du fr 4,du fr 5,du fr 6,du fr 7,du fr 8,du fr 9,du fr 10,p.cd,.int .i64 (p.code.length:Nat),.int .i64 (i:Nat)],[]⟩∧Has s0.bs.length S st [.deep ks y 4 ((p.code.take i).map qF),.box k3 (.mem 0 false [y,x8]),.lst x8 1 (p.ah.map ai),.box k2 (.mem 0 false [.nul,.nul]),.box k1 (.mem 0 false [p.cd,p.sd])]∧(i+mm=p.code.length)) (p.code.length) ?_ ?_
 ·exact⟨0,.nul,_,rfl,hH,by omega⟩
 rintro mm fr st ⟨i,y,ks,hfr,hH,hi⟩;rw[hfr];clear hfr;generalize du fr=ee;clear fr;refine zQ 5 ?_;refine zP (fun h1=>?_) fun h1=>?_
 ·refine zQ 1 ?_
  obtain⟨q,hq⟩:∃q,p.code[i]?=some q:=⟨p.code[i]'(by omega),List.getElem?_eq_getElem _⟩
  have hr:=fY hq;have vJ:=hp.i q (List.mem_of_getElem? hq);have CY:=vJ.1;have LN:=vJ.1.arg s0.bs.length S;have pL:=vJ.2;have lH:((p.code.take i).map qF).length≤1048576:=by rw[List.length_map,List.length_take];omega
  refine zQ 4 ?_;refine qr fun RL NA=>?_;refine EvO.cu rfl (ev rfl) (by assumption) rfl (put_T rfl _) ?_;refine qa hH fun k5 st Ep hH=>?_;refine qS hH at0 fun st hH=>?_;dsimp only[u2,u1,u3,u4,setMany,u5,u6,D.cells,Nat.reduceAdd,Pg.cs,aB,ai] at hH;refine zQ 1 ?_;have hH:=hH.nulE 2;refine zQ 4 ?_;refine EvO.happend (s:=2) hH rfl (ev rfl) (ev rfl) (by exact at0) (by exact Arg.rows (by assumption) hH) rfl rfl rfl rfl rfl rfl rfl ⟨(Nat.le_of_ble_eq_true rfl),(Nat.le_of_ble_eq_true rfl)⟩ (fun _=>(put_T rfl _)) (by simp only[List.length_nil,List.length_map]<;>omega) (by exact .inl hF) (fun LA st hH=>?_);dsimp only[u2,u1,u3,u4,setMany,u5,u6,D.cells,Nat.reduceAdd,Pg.cs,aB,ai] at hH;refine zQ 1 ?_;refine qT hH at1 (fun st hH=>?_) (gM:=hH.ocells at0);dsimp only[u2,u1,u3,u4,setMany,u5,u6,D.cells,Nat.reduceAdd,Pg.cs,aB,ai] at hH;refine zQ 4 ?_;refine EvO.hloadS (m:=4) hH rfl (ev rfl) (by exact at1) (by dsimp only[List.drop_succ_cons,List.drop_zero,List.take_succ_cons,List.take_zero,Pg.cs,aB,ai]<;>rfl) rfl rfl (put_T rfl _) ?_;refine qh (s:=4) (vs:=[_]) hH fun k24 st TG hH=>?_;obtain⟨hH,Of⟩:=hH.D7 (i:=1) (j:=3) (by decide) at1 at3 (dr _);dsimp only[u1,u2] at hH;refine EvO.oB hH rfl rfl rfl at3 (hH.rows at0) (.cons (.cons (.plain _ rfl) (.cons (.plain _ rfl) (.cons (.plain _ rfl) (.cons Of .nil)))) .nil) rfl rfl rfl rfl rfl rfl rfl ⟨(Nat.le_of_ble_eq_true rfl),(Nat.le_of_ble_eq_true rfl)⟩ (fun _=>(put_T rfl _)) (by show _+1≤_;omega) (.inl hF) (fun Rc st hH=>?_);dsimp only[u1,u2] at hH;refine zQ 1 ?_;refine EvO.pJ hH rfl (ev rfl) (ev rfl) (by exact hH.dcells (by exact at3)) (by exact rfl) (by exact at4) (by exact Nat.le_of_ble_eq_true rfl) (by exact .inl hF) (fun st hH=>?_);dsimp only[u2,u1,u3,u4,setMany,u5,u6,D.cells,Nat.reduceAdd,Pg.cs,aB,ai] at hH;refine zQ 5 ?_;exact⟨mm-1,by omega,⟨i+1,Rc,_,rfl,(by rw[List.take_add_one,hq,Option.toList_some,List.map_append];exact hH.drop 3),by omega⟩⟩
 ·refine zQ 3 ?_;refine EvO.hloadS (m:=2) hH rfl (ev rfl) (by exact at1) (by dsimp only[List.drop_succ_cons,List.drop_zero,List.take_succ_cons,List.take_zero,Pg.cs,aB,ai]<;>rfl) rfl rfl (put_T rfl _) ?_;refine qS hH at3 fun st hH=>?_;dsimp only[u2,u1,u3,u4,setMany,u5,u6,D.cells,Nat.reduceAdd,Pg.cs,aB,ai] at hH;refine zQ 1 ?_;rw[List.take_of_length_le (by omega)] at hH;have h1:=hH.pT at0 (n:=14) (by decide);have h2:=hH.zx at2 (mR _) (n:=15) (by decide)
  have h3:aX st s0.bs.length false 16 (.agg [y,x8])=some (.agg [.sl ((p.code.map qF).map (iV 4)),.sl ((p.ah.map ai).map (iV 1))]):=by
   show(gF (aX st s0.bs.length false 15) [y,x8]).map D.agg=_;simp only[gF,h1,h2,Option.map_some]
  refine EvC.ret ⟨rx,_,_,hH.ov rfl at3 rfl,rl hSb hH h3,⟨_,p.code.map cQ,CM p.ah,p.ah⟩,rfl,⟨?_,vF _,?_,by simpa using hlen,JM⟩,rfl,rfl⟩
  ·have h0:(p.code.map cQ).map aB=p.code.map qF:=by rw[List.map_map];rfl
   show SlD _ 4 ((p.code.map cQ).map aB);rw[h0]
   have h4:∀e∈(p.code.map qF),e.length=4:=by
    intro e he;obtain⟨q,_,rfl⟩:=List.mem_map.1 he;rfl
   have:=SlD.frozen (s:=4) (es:=p.code.map qF) h4 (by
    intro e he d hd;obtain⟨q,_,rfl⟩:=List.mem_map.1 he;simp only[qF,aB,cQ,List.mem_cons,List.not_mem_nil,or_false] at hd
    rcases hd with rfl|rfl|rfl|rfl<;>rfl)
   exact this
  ·intro i hi;obtain⟨q,hq,rfl⟩:=List.mem_map.1 hi;exact DN (hp.i q hq)
theorem i_.right {p q:Pg} (h:i_ p q) (hR:aO p):aO q:=(xc h.code h.ah).2 hR
theorem uB {N:Nat} {S s0:St} {H:List aN} {p:Pg} (hF:S.flr≤N) (hp:p.ok) (hR:aO p) (hH:Has N S s0 H):
  ∃r ab,Ev pv 56 [p.d] s0 r ab∧∃kv ks q,r=.tup [.ptr kv 0 0,.int .i64 0]∧i_ p q∧MH [] N S ab ks kv q 0 .nul [] H:=by
 have hc:=hp.c.arg N S;have hcl:=hR.cl;obtain⟨_,N5,q,rfl,hq⟩:=Ck (s0:=s0) hp;have hown:∀st,∃d,Ev pv 97 [p.d] st d st∧∃q:Pg,d=q.d∧i_ p q:=fun st=>Ck hp;unfold Pg.d at hown;unfold Pg.d;clear N5 hq q;refine Ev.fX rfl Pa rfl rfl rfl ?_;refine zE ?_;change EvC _ _ _ _ s0 _;refine zQ 2 ?_;refine qb hH fun k1 st kV hH=>?_;dsimp only[u2,u1,u3,u4,setMany,u5,u6,D.cells,Nat.reduceAdd,Pg.cs,aB,ai] at hH;refine zQ 6 ?_;refine EvO.hloadS (m:=2) hH rfl (ev rfl) (by exact at0) (by dsimp only[List.drop_succ_cons,List.drop_zero,List.take_succ_cons,List.take_zero,Pg.cs,aB,ai]<;>rfl) rfl rfl (put_T rfl _) ?_;refine qv (kq (p:=p) hp) ?_;refine zQ 2 ?_;refine qE rfl (by rw[dc hR];rfl) ?_;refine zQ 5 ?_;refine qn ?_;simp only[List.length_map];obtain⟨_,st,hev,ks,rfl,pd,qd,P,Q,hH,hok⟩:=rR (n:=p.code.length) hF (by omega) hH;refine qv hev ?_;refine zQ 6 ?_;obtain⟨_,hev,q,rfl,hq⟩:=hown st;refine zQ 2 ?_;refine EvO.hloadS (m:=2) hH rfl (ev rfl) (by exact at3) (by dsimp only[List.drop_succ_cons,List.drop_zero,List.take_succ_cons,List.take_zero,Pg.cs,aB,ai]<;>rfl) rfl rfl (put_T rfl _) ?_;refine qv hev ?_;refine qm ?_;refine EvO.go (d:=.agg [q.cd,q.sd,.int .i64 0,.nul,.ptr ks 0 0]) (st1:=_) rfl rfl rfl (put_T rfl _) ?_;refine qb hH fun k20 st NR hH=>?_;refine zQ 4 ?_;refine EvC.ret ⟨rx,_,_,_,rfl,rfl,?_⟩;have hl:(List.replicate p.code.length false).length=q.code.length:=by rw[List.length_replicate,hq.code,List.length_map]
 exact⟨k20,ks,q,rfl,hq,pd,qd,P,Q,_,Has.e5 [_] [_,_,_,_] ((hH.erase 4).nulE 12),hok,hl⟩
def eL (s:Nat):PL:=⟨false,aZ,[⟨s,aZ⟩]⟩
theorem D2 (cC:∀st,Ev pv 63 [] st (.agg (ay aZ)) st) {N ks kv:Nat} {S s0:St} {H:List aN} {p:Pg} (hF:S.flr≤N) (hp:p.ok) (hR:aO p) (hM:MH [] N S s0 ks kv p 0 .nul [] H):
  ∃d ab,Ev pv 57 [.ptr kv 0 0] s0 d ab∧d=.tup []∧∃ld L,L.map VL.pl=(au p).map eL∧MH [] N S ab ks kv p 0 ld L H:=by
 have hs:=hp.s.arg N S;have IJ:=hR.sl;obtain⟨pd,qd,P,Q,sn,hH,hok,cY⟩:=hM;dsimp only[u4] at hH;refine Ev.fX rfl O' rfl rfl rfl ?_;refine zE ?_;change EvC _ _ _ _ s0 _;refine zQ 7 ?_;refine qn ?_;simp only[List.length_map];refine zQ 3 ?_;refine EvC.loop (fun mm fr st=>∃(i:Nat) (ld:D) (L:List VL),fr.clean=⟨11,[.ptr kv 0 0,du fr 1,du fr 2,du fr 3,du fr 4,du fr 5,du fr 6,du fr 7,p.sd,.int .i64 (p.ah.length:Nat),.int .i64 (i:Nat)],[]⟩∧Has N S st (.box kv (.mem 0 false [p.cd,p.sd,.int .i64 ((0:Nat):Nat),ld,.ptr ks 0 0])::.box ks (.mem 0 false [pd,qd])::.lst pd 1 (P.map eG)::.lst qd 2 (Q.map lG)::.lst ld 12 (L.map dW)::(L.map jR++H))∧(i+mm=p.ah.length)∧(L.length=i)∧(L.map VL.pl=((au p).take i).map eL)) (p.ah.length) ?_ ?_
 ·exact⟨0,.nul,[],rfl,hH,by omega,rfl,rfl⟩
 rintro mm fr st ⟨i,ld,L,hfr,hH,hi,hLl,QL⟩;rw[hfr];clear hfr;generalize du fr=ee;clear fr;refine zQ 5 ?_;refine zP (fun hlt=>?_) fun hlt=>?_
 ·refine zQ 1 ?_;have hil:i<p.ah.length:=by omega
  obtain⟨s,MW⟩:∃s,p.ah[i]?=some s:=⟨p.ah[i]'(by omega),List.getElem?_eq_getElem _⟩
  obtain⟨rp,Gw⟩:=hR.st s (List.mem_of_getElem? MW);obtain⟨s1,rfl⟩:=Int.eq_ofNat_of_zero_le rp;have hr1:=dX MW;have f_:(au p)[i]?=some s1:=by unfold au;rw[List.getElem?_map,MW];rfl
  refine zQ 4 ?_;refine qr fun Qc J0=>?_;refine zQ 9 ?_;refine qv (cC _) ?_;refine qm ?_;refine qv (cC _) ?_;refine EvO.go (d:=.agg (aI ⟨s1,aZ⟩)) (st1:=_) rfl rfl rfl (put_T rfl _) ?_;refine qh (s:=11) (vs:=[_]) hH fun k23 st Kd hH=>?_;dsimp only[u2,u1,u3,u4,setMany,u5,u6,D.cells,Nat.reduceAdd,aB,aI,aG,ay,dW,ai] at hH;refine EvO.go (d:=.agg (aG false aZ (.win k23 0 0 1 11))) (st1:=_) rfl rfl rfl (put_T rfl _) ?_;refine qh (s:=12) (vs:=[_]) hH fun k25 st TF hH=>?_;dsimp only[u2,u1,u3,u4,setMany,u5,u6,D.cells,Nat.reduceAdd,aB,aI,aG,ay,dW,ai] at hH;refine EvO.happend (s:=12) hH rfl (ev rfl) (ev rfl) (by exact at6) (by exact hH.rows (by exact at0)) rfl rfl rfl rfl rfl rfl rfl ⟨(Nat.le_of_ble_eq_true rfl),(Nat.le_of_ble_eq_true rfl)⟩ (fun _=>(put_T rfl _)) (by simp only[List.length_cons,List.length_nil,List.length_map]<;>omega) (by exact .inl hF) (fun Rb st hH=>?_);dsimp only[u2,u1,u3,u4,setMany,u5,u6,D.cells,Nat.reduceAdd,aB,aI,aG,ay,dW,ai] at hH;refine zQ 2 ?_;refine qT hH at2 (fun st hH=>?_) (gM:=hH.ocells at6);dsimp only[u2,u1,u3,u4,setMany,u5,u6,D.cells,Nat.reduceAdd,aB,aI,aG,ay,dW,ai] at hH;refine zQ 5 ?_;have hH:=hH.drop 1;have hH:=Has.e5 [_] (_::_::_::_::_::L.map jR) hH;refine⟨mm-1,by omega,⟨i+1,Rb,L++[⟨false,aZ,.win k23 0 0 1 11,[⟨s1,aZ⟩]⟩],rfl,?_,by omega,by simp;omega,?_⟩⟩
  ·rw[List.map_append,List.map_append,List.append_assoc];exact hH
  ·rw[List.map_append,QL,List.take_add_one,f_,Option.toList_some,List.map_append];rfl
 ·refine zQ 1 ?_;refine⟨fun i h=>(by cases h),_,_,_,rfl,rfl,?_⟩;refine⟨rfl,ld,L,?_,pd,qd,P,Q,sn,hH,hok,cY⟩;rw[QL,List.take_of_length_le];unfold au;rw[List.length_map];omega
theorem Ar {p:Pg} (hR:aO p):∀l∈(au p).map eL,l.ok p.code.length:=by
 intro l hl;obtain⟨s,hs,rfl⟩:=List.mem_map.1 hl;obtain⟨v,hv,rfl⟩:=List.mem_map.1 hs;have:=hR.st v hv;refine⟨fun t ht=>?_,by simp[eL]⟩;simp only[eL,List.mem_cons,List.not_mem_nil,or_false] at ht;subst ht;show v.toNat<_;omega
theorem Ey (cC:∀st,Ev pv 63 [] st (.agg (ay aZ)) st) {N:Nat} {S s0:St} {H:List aN} {p:Pg} (hF:S.flr≤N) (hp:p.ok) (hR:aO p) (hH:Has N S s0 H):
  ∃r ab,Ev pv 13 [p.d] s0 r ab∧∃kv ks q ld L,r=.tup [.ptr kv 0 0,.int .i64 0]∧i_ p q∧L.map VL.pl=(au p).map eL∧MH [] N S ab ks kv q 0 ld L H:=by
 have En:∀st H,Has N S st H→∃r ab,Ev pv 56 [p.d] st r ab∧∃kv ks q,r=.tup [.ptr kv 0 0,.int .i64 0]∧i_ p q∧MH [] N S ab ks kv q 0 .nul [] H:=fun st H h=>uB hF hp hR h;unfold Pg.d at*;refine Ev.fX rfl PE rfl rfl rfl ?_;refine zE ?_;change EvC _ _ _ _ s0 _;refine zQ 2 ?_;refine qb hH fun k1 st kV hH=>?_;dsimp only[u2,u1,u3,u4,setMany,u5,u6,D.cells,Nat.reduceAdd,Pg.cs,aB,ai] at hH;refine zQ 5 ?_;refine EvO.hloadS (m:=2) hH rfl (ev rfl) (by exact at0) (by dsimp only[List.drop_succ_cons,List.drop_zero,List.take_succ_cons,List.take_zero,Pg.cs,aB,ai]<;>rfl) rfl rfl (put_T rfl _) ?_;obtain⟨_,st,hev,kv,ks,q,rfl,hq,hM⟩:=En _ _ hH;refine qv hev ?_;refine zQ 12 ?_;refine EvC.cond (v:=false) (by dsimp only[Fr.ev,Fr.get,nth,V.look];rfl) (fun h=>by cases h) (fun _=>?_);refine zQ 1 ?_;obtain⟨_,st1,hev,rfl,ld,L,hL,hM⟩:=D2 cC hF hq.ok (hq.right hR) hM;refine zQ 3 ?_;refine qv hev ?_;refine zQ 7 ?_;refine EvC.ret ⟨rx,_,_,_,rfl,rfl,?_⟩;have Sg:au q=au p:=by unfold au;rw[hq.ah]
 obtain⟨pd,qd,P,Q,sn,hH,hok,cY⟩:=hM;refine⟨kv,ks,q,ld,L,rfl,hq,by rw[←Sg];exact hL,pd,qd,P,Q,sn,?_,hok,cY⟩;have hH:=Has.e5 (_::_::_::_::_::L.map jR) [_] (H:=H) hH;exact hH.drop 1
def LB (l:List dA):D:=.sl ((l.map aI).map (iV 11))
def jY (l:PL):List D:=aG l.dn l.aM (LB l.aU)
def xH (L:List PL):D:=.sl ((L.map jY).map (iV 12))
theorem zV (l:List dA):∀e∈l.map aI,∀d∈e,bC d=true:=by
 intro e he d hd;obtain⟨q,_,rfl⟩:=List.mem_map.1 he;simp only[aI,List.mem_cons,List.not_mem_nil,or_false] at hd
 rcases hd with rfl|rfl|rfl|rfl|rfl|rfl|rfl|rfl|rfl|rfl|rfl<;>rfl
theorem Ja (l:List dA):SlD (LB l) 11 (l.map aI):=SlD.frozen (EC l) (zV l)
theorem GU (L:List PL):∀e∈L.map jY,e.length=12:=by
 intro e he;obtain⟨q,_,rfl⟩:=List.mem_map.1 he;rfl
theorem Ce (L:List PL):∀e∈L.map jY,∀d∈e,bC d=true:=by
 intro e he d hd;obtain⟨q,_,rfl⟩:=List.mem_map.1 he;simp only[jY,aG,List.mem_cons,List.not_mem_nil,or_false] at hd
 rcases hd with rfl|rfl|rfl|rfl|rfl|rfl|rfl|rfl|rfl|rfl|rfl|rfl<;>rfl
theorem vB (L:List PL):SlD (xH L) 12 (L.map jY):=SlD.frozen (GU L) (Ce L)
theorem GW {L:List PL} {i:Nat} {l:PL} (h:L[i]?=some l):(L.map jY)[i]?=some (jY l):=by rw[List.getElem?_map,h];rfl
theorem Ih {st:St} {ks:Nat→Prop} {dn:Bool} {f:np} {x y:D} (h:dI st ks x y):bQ (dI st ks) (aG dn f x) (aG dn f y):=
 .cons (.plain _ rfl) (.cons (.plain _ rfl) (.cons (.plain _ rfl) (.cons (.plain _ rfl) (.cons (.plain _ rfl) (.cons (.plain _ rfl) (.cons (.plain _ rfl) (.cons (.plain _ rfl) (.cons (.plain _ rfl) (.cons (.plain _ rfl) (.cons (.plain _ rfl) (.cons h .nil)))))))))))
structure AM (N:Nat) (S:St) (kv ks:Nat) (p:Pg) (pl:Nat) (ld:D) (L:List VL):Prop where
 lt:kv<N
 le:N≤S.bs.length
 at_:S.bs[kv]?=some (.mem 0 false [p.cd,p.sd,.int .i64 (pl:Nat),ld,.ptr ks 0 0])
 ld:Arg N S 12 ld (L.map dW)
 td:∀l∈L,Arg N S 11 l.td (l.aU.map aI)
 ksl:ks<N
theorem AM.box {N:Nat} {S st:St} {H:List aN} {kv ks:Nat} {p:Pg} {pl:Nat} {ld:D} {L:List VL} (h:AM N S kv ks p pl ld L) (hH:Has N S st H):st.bs[kv]?=some (.mem 0 false [p.cd,p.sd,.int .i64 (pl:Nat),ld,.ptr ks 0 0]):=by
 rw[hH.ex.low kv h.lt];exact h.at_
theorem AM.refs {N:Nat} {S st:St} {H:List aN} {kv ks:Nat} {p:Pg} {pl:Nat} {ld:D} {L:List VL} (h:AM N S kv ks p pl ld L) (hp:p.ok) (hH:Has N S st H):V.refs [p.cd,p.sd,.int .i64 (pl:Nat),ld,.ptr ks 0 0]≤st.bs.length:=by
 have h1:=hp.c.ref;have h2:=hp.s.ref;have h3:=h.ld.2;have h4:=h.ksl;have h5:=h.le;have h6:=hH.ex.len;simp only[V.refs,D.ref,h1,h2];omega
theorem AM.to {N:Nat} {S st:St} {H:List aN} {kv ks:Nat} {p:Pg} {pl:Nat} {ld:D} {L:List VL} (h:AM N S kv ks p pl ld L) (hH:Has N S st H) (o:Nat):i7 st (.ptr kv 0 o) ([p.cd,p.sd,.int .i64 (pl:Nat),ld,.ptr ks 0 0].drop o):=
 .inl ⟨kv,0,o,false,_,rfl,St.mem_of (by rw[hH.ex.low kv h.lt];exact h.at_),List.take_length ..⟩
theorem MH.am {N ks kv:Nat} {S s0:St} {H:List aN} {p:Pg} {pl:Nat} {ld:D} {L:List VL} (hM:MH [] N S s0 ks kv p pl ld L H):AM s0.bs.length s0 kv ks p pl ld L:=by
 obtain⟨pd,qd,P,Q,sn,hH,fP,cY⟩:=hM;dsimp only[u4] at hH
 exact⟨(hH.ge at0).2,Nat.le_refl _,hH.at at0,⟨hH.rows at4,pq hH at4⟩,fun l hl=>(by
  obtain⟨i,hi⟩:=List.getElem?_of_mem hl;have h:=BH (H:=H) [.box kv (.mem 0 false [p.cd,p.sd,.int .i64 (pl:Nat),ld,.ptr ks 0 0]),.box ks (.mem 0 false [pd,qd]),.lst pd 1 (P.map eG),.lst qd 2 (Q.map lG),.lst ld 12 (L.map dW)] rfl hi
  exact⟨hH.rows h,pq hH h⟩),hH.sB at1 rfl⟩
theorem MH.ro {N ks kv:Nat} {S s0:St} {H:List aN} {p:Pg} {pl:Nat} {ld:D} {L:List VL} (hM:MH [] N S s0 ks kv p pl ld L H):s0.ro≤s0.bs.length:=by
 obtain⟨pd,qd,P,Q,sn,hH,fP,cY⟩:=hM;rw[hH.ex.ro];exact Nat.le_trans hH.cZ (Nat.le_trans hH.hN hH.ex.len)
def mI (fr:Go.V.Fr) (k:Nat):Go.V.D:=Go.V.nth .junk fr.loc k
theorem vn (f:np):iB pv .neq 55 (.agg (ay f)) (.agg (ay f))=some (.bool false):=by
 have h:∀b c d e g i j k l m:Int,iB pv .neq 55 (.agg [.int .i64 b,.int .i64 c,.int .i64 d,.int .i64 e,.int .i64 g,.int .i64 i,.int .i64 j,.int .i64 k,.int .i64 l,.int .i64 m]) (.agg [.int .i64 b,.int .i64 c,.int .i64 d,.int .i64 e,.int .i64 g,.int .i64 i,.int .i64 j,.int .i64 k,.int .i64 l,.int .i64 m])=Option.map (fun b=>D.bool !b) (match some (b==b) with|some true=>(match some (c==c) with|some true=>(match some (d==d) with|some true=>(match some (e==e) with|some true=>(match some (g==g) with|some true=>(match some (i==i) with|some true=>(match some (j==j) with|some true=>(match some (k==k) with|some true=>(match some (l==l) with|some true=>(match some (m==m) with|some true=>some true|some false=>some false|none=>none)|some false=>some false|none=>none)|some false=>some false|none=>none)|some false=>some false|none=>none)|some false=>some false|none=>none)|some false=>some false|none=>none)|some false=>some false|none=>none)|some false=>some false|none=>none)|some false=>some false|none=>none)|some false=>some false|none=>none):=fun _ _ _ _ _ _ _ _ _ _=>rfl;unfold ay;rw[h];simp only[beq_self_eq_true,Option.map_some,Bool.not_true]
theorem Fb (t:dA):iB pv .neq 60 (.agg (aI t)) (.agg (aI t))=some (.bool false):=by
 have h:∀a b c d e g i j k l m:Int,iB pv .neq 60 (.agg [.int .i64 a,.int .i64 b,.int .i64 c,.int .i64 d,.int .i64 e,.int .i64 g,.int .i64 i,.int .i64 j,.int .i64 k,.int .i64 l,.int .i64 m]) (.agg [.int .i64 a,.int .i64 b,.int .i64 c,.int .i64 d,.int .i64 e,.int .i64 g,.int .i64 i,.int .i64 j,.int .i64 k,.int .i64 l,.int .i64 m])=Option.map (fun b=>D.bool !b) (match some (a==a) with|some true=>(match(match some (b==b) with|some true=>(match some (c==c) with|some true=>(match some (d==d) with|some true=>(match some (e==e) with|some true=>(match some (g==g) with|some true=>(match some (i==i) with|some true=>(match some (j==j) with|some true=>(match some (k==k) with|some true=>(match some (l==l) with|some true=>(match some (m==m) with|some true=>some true|some false=>some false|none=>none)|some false=>some false|none=>none)|some false=>some false|none=>none)|some false=>some false|none=>none)|some false=>some false|none=>none)|some false=>some false|none=>none)|some false=>some false|none=>none)|some false=>some false|none=>none)|some false=>some false|none=>none)|some false=>some false|none=>none) with|some true=>some true|some false=>some false|none=>none)|some false=>some false|none=>none):=fun _ _ _ _ _ _ _ _ _ _ _=>rfl;unfold aI;rw[h];simp only[beq_self_eq_true,Option.map_some,Bool.not_true]
theorem w_ {s0:St} {x y:D} {l:List dA} (hx:V.Rows s0 11 x (l.map aI)) (hy:V.Rows s0 11 y (l.map aI)) (hl:l.length≤1073741824):Ev pv 67 [x,y] s0 (.bool true) s0:=by
 refine Ev.mk1 rfl KO rfl rfl rfl ?_;refine zE ?_;obtain⟨hSb,hF,hH⟩:=ri s0;generalize enterSt .ro s0=S at*;have hx:=Arg.of hx hSb;have hy:=Arg.of hy hSb;refine zQ 8 ?_;refine qn ?_;simp only[List.length_map];refine qm ?_;refine qn ?_;simp only[List.length_map];refine zQ 2 ?_;refine qE rfl (by simp) ?_;refine zQ 7 ?_;refine EvC.loop (fun mm fr st=>∃(i:Nat),fr.clean=⟨6,[x,y,mI fr 2,mI fr 3,.bool false,.int .i64 (i:Nat)],[]⟩∧Has s0.bs.length S st []∧(i+mm=l.length)) (l.length) ?_ ?_
 ·exact⟨0,rfl,hH,by omega⟩
 rintro mm fr st ⟨i,hfr,hH,hi⟩;rw[hfr];clear hfr;generalize mI fr=ee;clear fr;refine zQ 5 ?_;refine qn ?_;simp only[List.length_map];refine zQ 2 ?_;refine zP (fun h1=>?_) fun h1=>?_
 ·refine zQ 1 ?_
  obtain⟨p,hp⟩:∃p,l[i]?=some p:=⟨l[i]'(by omega),List.getElem?_eq_getElem _⟩
  have hr1:=te hp;refine zQ 6 ?_;refine qr fun LG FE=>?_;refine EvO.cu rfl (ev rfl) (by assumption) rfl (put_T rfl _) ?_;refine zQ 2 ?_;refine qr fun Mo Hx=>?_;refine EvO.cu rfl (ev rfl) (by assumption) rfl (put_T rfl _) ?_;refine EvO.IG rfl (ev rfl) (ev rfl) (Fb p) (put_T rfl _) ?_;refine zQ 8 ?_;exact⟨mm-1,by omega,⟨i+1,rfl,hH,by omega⟩⟩
 ·refine zQ 5 ?_;refine EvC.ret ⟨rx,_,rfl,rl hSb hH (rfl)⟩
def wK (es:List (List D)) (L:List PL):Prop:=es.length=L.length∧∀(i:Nat) l,L[i]?=some l→∃d,SlD d 11 (l.aU.map aI)∧es[i]?=some (aG l.dn l.aM d)
theorem pr (L:List PL):wK (L.map jY) L:=⟨List.length_map _,fun i l h=>⟨LB l.aU,Ja _,GW h⟩⟩
def ni (st:St) (es:List (List D)) (L:List PL):Prop:=es.length=L.length∧∀(i:Nat) l,L[i]?=some l→∃d,V.Rows st 11 d (l.aU.map aI)∧es[i]?=some (aG l.dn l.aM d)
theorem wK.any {es:List (List D)} {L:List PL} (h:wK es L) (st:St):ni st es L:=⟨h.1,fun i l hl=>by
 obtain⟨d,h1,h2⟩:=h.2 i l hl
 exact⟨d,h1.rows st,h2⟩⟩
theorem AQ {s0:St} {x y:D} {es fs:List (List D)} {L:List PL} (hx:V.Rows s0 12 x es) (hy:V.Rows s0 12 y fs) (kW:ni s0 es L) (Df:ni s0 fs L) (hl:L.length≤1073741824) (uh:∀l∈L,l.aU.length≤1000):Ev pv 22 [x,y] s0 (.bool true) s0:=by
 obtain⟨oz,N_⟩:=kW;obtain⟨kJ,NZ⟩:=Df;refine Ev.mk1 rfl KP rfl rfl rfl ?_;refine zE ?_;obtain⟨hSb,hF,hH⟩:=ri s0;generalize enterSt .ro s0=S at*;have hx:=Arg.of hx hSb;have hy:=Arg.of hy hSb;refine zQ 8 ?_;refine qn ?_;refine qm ?_;refine qn ?_;refine zQ 2 ?_;refine qE rfl (by rw[oz,kJ];simp) ?_;refine zQ 7 ?_;refine EvC.loop (fun mm fr st=>∃(i:Nat),fr.clean=⟨6,[x,y,mI fr 2,mI fr 3,.bool false,.int .i64 (i:Nat)],[]⟩∧Has s0.bs.length S st []∧(i+mm=es.length)) (es.length) ?_ ?_
 ·exact⟨0,rfl,hH,by omega⟩
 rintro mm fr st ⟨i,hfr,hH,hi⟩;rw[hfr];clear hfr;generalize mI fr=ee;clear fr;refine zQ 5 ?_;refine qn ?_;refine zQ 2 ?_;refine zP (fun h1=>?_) fun h1=>?_
 ·refine zQ 1 ?_
  obtain⟨l,hll⟩:∃l,L[i]?=some l:=⟨L[i]'(by omega),List.getElem?_eq_getElem _⟩
  obtain⟨d1,x0,hr1⟩:=N_ i l hll;obtain⟨d2,uj,n5⟩:=NZ i l hll;have lH:=uh l (List.mem_of_getElem? hll);have ch:(l.dn !=l.dn)=false:=by simp
  have pM:false=false:=rfl;refine zQ 3 ?_;refine EvC.cutT 54 (.bool false) [] ?_ (fun ff tmp htmp=>?_)
  ·refine zQ 2 ?_;refine qr fun LG FE=>?_;refine qf (fo:=0) fun Jh C7=>?_;refine zQ 3 ?_;refine qr fun IF AY=>?_;refine qf (fo:=0) fun IE AX=>?_;refine zQ 5 ?_;refine qr (fun RH Nv=>?_) (hg:=wi ch);refine qf (fo:=1) (fun RG Nu=>?_) (hg:=wi ch);refine zQ 3 ?_;refine qr (fun LD FC=>?_) (hg:=wi ch);refine qf (fo:=1) (fun Mn Hw=>?_) (hg:=wi ch);refine zQ 1 ?_;refine EvO.IG (wantD_is rfl rfl rfl ch) (ev rfl) (ev rfl) (vn l.aM) (put_T rfl _) ?_;refine zQ 4 ?_;refine qr (fun RB Np=>?_) (hg:=wi pM);refine qf (fo:=11) (fun RA Nn=>?_) (hg:=wi pM);refine zQ 3 ?_;refine qr (fun Mm Hv=>?_) (hg:=wi pM);refine qf (fo:=11) (fun Ml Hu=>?_) (hg:=wi pM);refine zQ 1 ?_;refine qv (w_ ((Arg.of x0 hSb).rows hH) ((Arg.of uj hSb).rows hH) (by omega)) ?_ (hg:=wi pM);refine zQ 2 ?_;refine EvO.nil (leafT ?_ ?_)
   ·dsimp only[setW,List.foldl,nth,u2,u1]
    all_goals(first|rfl|simp)
   ·dsimp only[Fr.putO,Fr.put,Fr.clean,Fr.ev,Fr.get,nth,look,u1,u2,v1,v2,v4]
    all_goals(rfl)
  dsimp only[setW,List.foldl,nth,u2,u1];dsimp only[Fr.putO,Fr.put,Fr.clean,Fr.ev,Fr.get,nth,look,u1,u2,v1,v2,v4];refine zQ 7 ?_;exact⟨mm-1,by omega,⟨i+1,rfl,hH,by omega⟩⟩
 ·refine zQ 5 ?_;refine EvC.ret ⟨rx,_,rfl,rl hSb hH (rfl)⟩
theorem CH {s0:St} {x y:D} {es fs:List (List D)} {L:List PL} (hx:V.Rows s0 12 x es) (hy:V.Rows s0 12 y fs) (kW:wK es L) (Df:wK fs L) (hl:L.length≤1073741824) (uh:∀l∈L,l.aU.length≤1000):Ev pv 22 [x,y] s0 (.bool true) s0:=
 AQ hx hy (kW.any s0) (Df.any s0) hl uh
theorem ni.ex {s0 S st:St} {H:List aN} {es:List (List D)} {L:List PL} (h:ni s0 es L) (hS:S.bs=s0.bs) (hH:Has s0.bs.length S st H):ni st es L:=⟨h.1,fun i l hl=>by
 obtain⟨d,h1,h2⟩:=h.2 i l hl
 exact⟨d,(Arg.of h1 hS).rows hH,h2⟩⟩
def PL.v (l:PL):VL:=⟨l.dn,l.aM,LB l.aU,l.aU⟩
open Go.V Go Go.RowKit
theorem oH (code:List aA) (pl:Nat) (e:Bool):∀(f:Nat) (w:Wk) (t:dA),bR (code.map cQ) pl e f w t=bR code pl e f w t
 |0,_,_=>rfl
 |f+1,w,t=>by
  unfold bR;simp only[oH code pl e f,List.getElem?_map]
  cases code[t.pc]? with
  |none=>rfl
  |some i=>rfl
theorem p_ (code:List aA) (pl:Nat) (e:Bool):∀(l:List dA) (w:Wk),nR (code.map cQ) pl e l w=nR code pl e l w
 |[],_=>rfl
 |t::ts,w=>by
  unfold nR;simp only[oH,List.length_map,p_ code pl e ts]
theorem Aj (code:List aA) (k:Nat):Ak (code.map cQ) k=Ak code k:=by
 unfold Ak;rw[List.getElem?_map];cases code[k]?<;>rfl
theorem pg (code:List aA) (r:Int):∀(l a:List dA),eH (code.map cQ) r l a=eH code r l a
 |[],_=>rfl
 |t::ts,a=>by unfold eH;simp only[Aj,pg code r ts]
theorem wX (code:List aA) (pl s:Nat) (r:Int) (l:PL):et (code.map cQ) pl s r l=et code pl s r l:=by
 unfold et;simp only[p_,pg,List.length_map]
theorem ny (code:List aA) (pl:Nat) (r:Int):∀(ss:List Nat) (ls:List PL),eC (code.map cQ) pl r ss ls=eC code pl r ss ls
 |[],_=>rfl
 |_::_,[]=>rfl
 |s::ss,l::ls=>by simp only[eC,wX,ny code pl r ss ls]
theorem Bf (code:List aA) (pl:Nat):kM (code.map cQ) pl=kM code pl:=by
 funext l;unfold kM;simp only[p_,List.length_map]
theorem i_.au {p q:Pg} (h:i_ p q):au q=au p:=by unfold Go.Proofs.YtnleclohocdkaaaGreat.au;rw[h.ah]
theorem me {p:Pg} (hR:aO p) {pl:Nat} {r:Int}:∀{ss:List Nat} {ls:List PL},(∀s∈ss,s<p.code.length)→∀l∈eC p.code pl r ss ls,l.ok p.code.length
 |[],_,_,l,hl=>by cases hl
 |_::_,[],_,l,hl=>by cases hl
 |s::ss,x::ls,hs,l,hl=>by
  simp only[eC,List.mem_cons] at hl
  rcases hl with rfl|hl
  ·exact BR hR (hs s (List.mem_cons_self ..))
  ·exact me hR (fun s h=>hs s (List.mem_cons_of_mem _ h)) l hl
theorem oK {p:Pg} (hR:aO p):∀s∈au p,s<p.code.length:=by
 intro s hs;obtain⟨v,hv,rfl⟩:=List.mem_map.1 hs;have:=hR.st v hv;omega
theorem Im {x y:Oper} {fi fj:Fr} {si oo sj Ed:St} {a:Operand} {k aq off v:Nat} {ar:Bool} {c:List D} (hy:fz y.op=some a) (ha:fj.ev a=.ptr k aq off) (h1:si.bs[k]?=some (.mem v ar c)) (h2:oo.bs[k]?=some (.mem v ar c)):gp x fi si oo y fj sj Ed=true:=by
 unfold gp;simp only[hy,ha,D.kP];exact mb h1 h2
def c_ (ks kv:Nat) (p:Pg) (pl:Nat) (ld pd qd:D) (P Q:List Nat) (L:List VL):List aN:=
 .box kv (.mem 0 false [p.cd,p.sd,.int .i64 (pl:Nat),ld,.ptr ks 0 0])::.box ks (.mem 0 false [pd,qd])::.lst pd 1 (P.map eG)::.lst qd 2 (Q.map lG)::.lst ld 12 (L.map dW)::L.map jR
theorem nG {A:List aN} {N:Nat} {S st:St} {ks kv:Nat} {p:Pg} {pl:Nat} {ld:D} {L:List VL} {H:List aN} (h:MH A N S st ks kv p pl ld L H):∃pd qd P Q sn,Has N S st (A++(c_ ks kv p pl ld pd qd P Q L++H))∧cp P Q sn∧sn.length=p.code.length:=by
 obtain⟨pd,qd,P,Q,sn,hH,h1,h2⟩:=h;exact⟨pd,qd,P,Q,sn,by simpa only[c_,List.cons_append] using hH,h1,h2⟩
theorem vu {A:List aN} {N:Nat} {S st:St} {ks kv:Nat} {p:Pg} {pl:Nat} {ld:D} {L:List VL} {H:List aN} {pd qd:D} {P Q:List Nat} {sn:List Bool} (hH:Has N S st (A++(c_ ks kv p pl ld pd qd P Q L++H))) (h1:cp P Q sn) (h2:sn.length=p.code.length):MH A N S st ks kv p pl ld L H:=
 ⟨pd,qd,P,Q,sn,by simpa only[c_,List.cons_append] using hH,h1,h2⟩
def MM (A:List aN) (N:Nat) (S st:St) (ks kv:Nat) (p:Pg) (pl:Nat) (ld:D) (L:List VL) (ki kF:Nat) (p2:Pg) (uZ:Nat) (nW:D) (L2:List VL):Prop:=
 ∃pd qd P Q sn Au Aq P2 Q2 EJ,Has N S st (A++(c_ ks kv p pl ld pd qd P Q L++c_ ki kF p2 uZ nW Au Aq P2 Q2 L2))∧cp P Q sn∧sn.length=p.code.length∧cp P2 Q2 EJ∧EJ.length=p2.code.length
section
variable{A:List aN} {N:Nat} {S st:St} {ks kv ki kF:Nat} {p p2:Pg} {pl uZ:Nat} {ld nW:D} {L L2:List VL}
theorem MM.flip (h:MM A N S st ks kv p pl ld L ki kF p2 uZ nW L2):MM A N S st ki kF p2 uZ nW L2 ks kv p pl ld L:=by
 obtain⟨pd,qd,P,Q,sn,Au,Aq,P2,Q2,EJ,hH,h1,h2,h3,h4⟩:=h;refine⟨Au,Aq,P2,Q2,EJ,pd,qd,P,Q,sn,?_,h3,h4,h1,h2⟩;have a:=Has.e5 A (c_ ks kv p pl ld pd qd P Q L++c_ ki kF p2 uZ nW Au Aq P2 Q2 L2) (H:=[]) (by rw[List.append_nil];exact hH);rw[List.append_assoc] at a;have b:=Has.e5 _ _ a;rw[←List.append_assoc] at b;have c:=Has.e5 _ _ b;rw[List.append_nil] at c;exact c
theorem MM.one (h:MM A N S st ks kv p pl ld L ki kF p2 uZ nW L2):∃H,MH [] N S st ks kv p pl ld L H∧∀(B:List aN) (ab:St) (rn:Nat) (xI:D) (L':List VL),MH B N S ab ks kv p rn xI L' H→MM (B++A) N S ab ks kv p rn xI L' ki kF p2 uZ nW L2:=by
 obtain⟨pd,qd,P,Q,sn,Au,Aq,P2,Q2,EJ,hH,h1,h2,h3,h4⟩:=h
 refine⟨c_ ki kF p2 uZ nW Au Aq P2 Q2 L2++A,vu (by
  have a:=Has.e5 A (c_ ks kv p pl ld pd qd P Q L++c_ ki kF p2 uZ nW Au Aq P2 Q2 L2) (H:=[]) (by rw[List.append_nil];exact hH);rw[List.append_nil,List.append_assoc] at a
  exact a) h1 h2,fun B ab rn xI L' hM=>?_⟩
 obtain⟨Eh,Eg,P',Q',Me,Uz,KI,I2⟩:=nG hM;refine⟨Eh,Eg,P',Q',Me,Au,Aq,P2,Q2,EJ,?_,KI,I2,h3,h4⟩
 have a:=Has.e5 (B++(c_ ks kv p rn xI Eh Eg P' Q' L'++c_ ki kF p2 uZ nW Au Aq P2 Q2 L2)) A (H:=[]) (by rw[List.append_nil];simpa only[List.append_assoc] using Uz);have b:Has N S ab (A++(B++((c_ ks kv p rn xI Eh Eg P' Q' L'++c_ ki kF p2 uZ nW Au Aq P2 Q2 L2)++[]))):=by simpa only[List.append_assoc] using a
 have c:=Has.e5 _ _ b;rw[List.append_nil] at c
 simpa only[List.append_assoc] using c
theorem MM.drop (n:Nat) (h:MM A N S st ks kv p pl ld L ki kF p2 uZ nW L2) (hn:n≤A.length):MM (A.drop n) N S st ks kv p pl ld L ki kF p2 uZ nW L2:=by
 obtain⟨pd,qd,P,Q,sn,Au,Aq,P2,Q2,EJ,hH,h1,h2,h3,h4⟩:=h;refine⟨pd,qd,P,Q,sn,Au,Aq,P2,Q2,EJ,?_,h1,h2,h3,h4⟩;have:=hH.drop n
 rwa [List.drop_append_of_le_length hn] at this
theorem MM.has (h:MM A N S st ks kv p pl ld L ki kF p2 uZ nW L2):Has N S st A:=by
 obtain⟨pd,qd,P,Q,sn,Au,Aq,P2,Q2,EJ,hH,_⟩:=h;have:=hH.take A.length
 rwa [List.take_left] at this
theorem MM.made {pd qd:D} {P Q:List Nat} {sn:List Bool} (h:MH [] N S st ks kv p pl ld L (c_ ki kF p2 uZ nW pd qd P Q L2++A)) (h1:cp P Q sn) (h2:sn.length=p2.code.length):MM A N S st ks kv p pl ld L ki kF p2 uZ nW L2:=by
 obtain⟨Eh,Eg,P',Q',Me,hH,h3,h4⟩:=nG h;refine⟨Eh,Eg,P',Q',Me,pd,qd,P,Q,sn,?_,h3,h4,h1,h2⟩;have a:=Has.e5 (c_ ks kv p pl ld Eh Eg P' Q' L++c_ ki kF p2 uZ nW pd qd P Q L2) A (H:=[]) (by rw[List.append_nil];simpa only[List.nil_append,List.append_assoc] using hH)
 rwa [List.append_nil] at a
end
end Go.Proofs.YtnleclohocdkaaaGreat
namespace Go.Proofs.YtnleclohocdkaaaGreat
open Go.V Go
def mM (fr:Go.V.Fr) (k:Nat):Go.V.D:=Go.V.nth .junk fr.loc k
theorem Has.over {N:Nat} {S st ab:St} {H H2:List aN} (h:Has N S st H) (h2:Has st.bs.length st ab H2):Has N S ab (H2++H):=by
 have hN:=h.hN;have hl:=h.ex.len;have jC:=h2.ex.len;refine⟨⟨fun k hk=>?_,by omega,h2.ex.flr.trans h.ex.flr,h2.ex.ro.trans h.ex.ro⟩,hN,h.cZ,fun i e hi=>?_,fun i j a b hij ha hb k rr gH=>?_⟩
 ·rw[h2.ex.low k (by omega)];exact h.ex.low k hk
 ·by_cases hlt:i<H2.length
  ·rw[List.getElem?_append_left hlt] at hi;obtain⟨h3,h4⟩:=h2.ok i e hi;exact⟨h3,fun k hk=>⟨by have:=(h4 k hk).1;omega,(h4 k hk).2⟩⟩
  ·rw[List.getElem?_append_right (by omega)] at hi;obtain⟨h3,h4⟩:=h.ok _ e hi;exact⟨e.loc (fun k hk=>h2.ex.low k (h4 k hk).2) h3,fun k hk=>⟨(h4 k hk).1,by have:=(h4 k hk).2;omega⟩⟩
 ·by_cases h1:i<H2.length<;>by_cases h3:j<H2.length
  ·rw[List.getElem?_append_left h1] at ha;rw[List.getElem?_append_left h3] at hb;exact h2.dis i j a b hij ha hb k rr gH
  ·rw[List.getElem?_append_left h1] at ha;rw[List.getElem?_append_right (by omega)] at hb;have:=((h2.ok _ a ha).2 k rr).1;have:=((h.ok _ b hb).2 k gH).2;omega
  ·rw[List.getElem?_append_right (by omega)] at ha;rw[List.getElem?_append_left h3] at hb;have:=((h2.ok _ b hb).2 k gH).1;have:=((h.ok _ a ha).2 k rr).2;omega
  ·rw[List.getElem?_append_right (by omega)] at ha hb;exact h.dis _ _ a b (by omega) ha hb k rr gH
theorem kO {N:Nat} {S s0:St} {H:List aN} {x:D} {L:List VL} (hF:S.flr≤N) (hLl:L.length≤1000) (hx:Arg N S 12 x (L.map dW)) (ht:∀l∈L,Arg N S 11 l.td (l.aU.map aI)∧l.aU.length≤1000) (hH:Has N S s0 H):
  ∃d ab,Ev pv 61 [x] s0 d ab∧∃L':List VL,L'.map VL.pl=L.map VL.pl∧Has N S ab (.lst d 12 (L'.map dW)::(L'.map jR++H)):=by
 refine Ev.fX rfl O9 rfl rfl rfl ?_;refine zE ?_;change EvC _ _ _ _ s0 _;refine zQ 12 ?_;refine qn ?_;simp only[List.length_map];refine zQ 3 ?_;refine EvC.loop (fun mm fr st=>∃(i:Nat) (y:D) (M:List VL),fr.clean=⟨9,[mM fr 0,mM fr 1,mM fr 2,y,mM fr 4,mM fr 5,x,.int .i64 (L.length:Nat),.int .i64 (i:Nat)],[]⟩∧Has N S st (.lst y 12 (M.map dW)::(M.map jR++H))∧(i+mm=L.length)∧(M.map VL.pl=(L.take i).map VL.pl)) (L.length) ?_ ?_
 ·exact⟨0,.nul,[],rfl,(hH.nulE 12),by omega,rfl⟩
 rintro mm fr st ⟨i,y,M,hfr,hH,hi,hM⟩;rw[hfr];clear hfr;generalize mM fr=ee;clear fr
 have V8:M.length=i:=by
  have:=congrArg List.length hM;rw[List.length_map,List.length_map,List.length_take] at this;omega
 refine zQ 5 ?_;refine zP (fun hlt=>?_) fun hlt=>?_
 ·refine zQ 1 ?_;have hil:i<L.length:=by omega
  obtain⟨l,hl⟩:∃l,L[i]?=some l:=⟨L[i]'hil,List.getElem?_eq_getElem _⟩
  obtain⟨II,lH⟩:=ht l (List.mem_of_getElem? hl);have hr1:=wQ hl;refine zQ 4 ?_;refine qr fun LH FF=>?_;refine EvO.cu rfl (ev rfl) (by assumption) rfl (put_T rfl _) ?_;refine qa hH fun k5 st Ep hH=>?_;refine qS hH at0 fun st hH=>?_;dsimp only[u2,u1,u3,u4,setMany,u5,u6,D.cells,Nat.reduceAdd,aB,aI,aG,ay,dW,jY] at hH;refine zQ 1 ?_;have hH:=hH.nulE 11;refine zQ 4 ?_;refine EvO.happend (s:=11) hH rfl (ev rfl) (ev rfl) (by exact at0) (by exact Arg.rows (by assumption) hH) rfl rfl rfl rfl rfl rfl rfl ⟨(Nat.le_of_ble_eq_true rfl),(Nat.le_of_ble_eq_true rfl)⟩ (fun _=>(put_T rfl _)) (by simp only[List.length_nil,List.length_map]<;>omega) (by exact .inl hF) (fun Rf st hH=>?_);dsimp only[u2,u1,u3,u4,setMany,u5,u6,D.cells,Nat.reduceAdd,aB,aI,aG,ay,dW,jY] at hH;refine zQ 1 ?_;refine qT hH at1 (fun st hH=>?_) (gM:=hH.ocells at0);dsimp only[u2,u1,u3,u4,setMany,u5,u6,D.cells,Nat.reduceAdd,aB,aI,aG,ay,dW,jY] at hH;refine zQ 3 ?_;refine EvO.hloadS (m:=12) hH rfl (ev rfl) (by exact at1) (by dsimp only[List.drop_succ_cons,List.drop_zero,List.take_succ_cons,List.take_zero,aB,aI,aG,ay,dW,jY]<;>rfl) rfl rfl (put_T rfl _) ?_;refine qh (s:=12) (vs:=[_]) hH fun k18 st TJ hH=>?_;refine EvO.happend (s:=12) hH rfl (ev rfl) (ev rfl) (by exact at3) (by exact hH.rows (by exact at0)) rfl rfl rfl rfl rfl rfl rfl ⟨(Nat.le_of_ble_eq_true rfl),(Nat.le_of_ble_eq_true rfl)⟩ (fun _=>(put_T rfl _)) (by simp only[List.length_cons,List.length_nil,List.length_map]<;>omega) (by exact .inl hF) (fun LA st hH=>?_);dsimp only[u2,u1,u3,u4,setMany,u5,u6,D.cells,Nat.reduceAdd,aB,aI,aG,ay,dW,jY] at hH;refine zQ 6 ?_;have hH:=(hH.drop 1).erase 1;have hH:=Has.e5 [_] (_::M.map jR) hH;refine⟨mm-1,by omega,⟨i+1,LA,M++[⟨l.dn,l.aM,Rf,l.aU⟩],rfl,?_,by omega,?_⟩⟩
  ·rw[List.map_append,List.map_append,List.append_assoc];exact hH
  ·rw[List.map_append,hM,List.take_add_one,hl,Option.toList_some,List.map_append];rfl
 ·refine zQ 1 ?_;have hil:i=L.length:=by omega
  refine zQ 5 ?_;refine EvC.ret ⟨rx,_,_,_,rfl,rfl,?_⟩;rw[List.take_of_length_le (by omega)] at hM;exact⟨M,hM,hH⟩
theorem EA {N ks kv:Nat} {S s0:St} {H:List aN} {p:Pg} {pl:Nat} {ld:D} {L:List VL} (hF:S.flr≤N) (hp:p.ok) (hR:aO p) (hA:AM N S kv ks p pl ld L) (hH:Has N S s0 H):
  ∃r ab,Ev pv 110 [.ptr kv 0 0] s0 r ab∧∃kF ki,r=.ptr kF 0 0∧MH [] N S ab ki kF p 0 .nul [] H:=by
 have hcl:=hR.cl;have hc:=hp.c.arg N S;refine Ev.fX rfl Lj rfl rfl rfl ?_;refine zE ?_;change EvC _ _ _ _ s0 _;refine zQ 4 ?_;have IL:=hA.to hH 0;refine zQ 7 ?_;refine qn ?_;simp only[List.length_map];obtain⟨_,st,hev,ki,rfl,pd,qd,P,Q,hH,hok⟩:=rR (n:=p.code.length) hF (by omega) hH;refine qv hev ?_;refine zQ 6 ?_;have IL:=hA.to hH 0;refine zQ 5 ?_;refine EvO.rload (d:=.agg [p.cd,p.sd]) rfl (ev rfl) IL rfl (put_T rfl _) ?_;refine qm ?_;refine EvO.go (d:=.agg [p.cd,p.sd,.int .i64 0,.nul,.ptr ki 0 0]) (st1:=_) rfl rfl rfl (put_T rfl _) ?_;refine qb hH fun k21 st TH hH=>?_;refine zQ 2 ?_;refine EvC.ret ⟨rx,_,_,_,rfl,rfl,?_⟩;exact⟨k21,ki,rfl,pd,qd,P,Q,_,Has.e5 [_] [_,_,_,_] (hH.nulE 12),hok,by rw[List.length_replicate]⟩
theorem Gh {N ks kv:Nat} {S s0:St} {H:List aN} {p:Pg} {pl:Nat} {ld:D} {L:List VL} (hF:S.flr≤N) (hp:p.ok) (hR:aO p) (hLl:L.length≤1000) (uh:∀l∈L,l.aU.length≤1000) (hA:AM N S kv ks p pl ld L) (hH:Has N S s0 H):
  ∃r ab,Ev pv 81 [.ptr kv 0 0] s0 r ab∧∃kF ki nW L2,r=.ptr kF 0 0∧L2.map VL.pl=L.map VL.pl∧MH [] N S ab ki kF p pl nW L2 H:=by
 obtain⟨_,st,hev,kF,ki,rfl,pd,qd,P,Q,sn,hH,hok,cY⟩:=EA hF hp hR hA hH;dsimp only[u3,u4,u6] at hH;refine Ev.fX rfl OY rfl rfl rfl ?_;refine zE ?_;change EvC _ _ _ _ s0 _;refine qq<|qj fun K hK=>qm ?_;refine qe hK<|qq<|qj fun K hK=>qm ?_;refine qv hev ?_;refine qm ?_;refine qe hK ?_;have Em:=hA.to hH 2;have SY:=hA.to hH 3;have hb2:=hA.box hH;have Ek:=hA.refs hp hH;change EvC _ _ _ _ _ _;refine qq ?_;generalize hK:SeqQ _ _ _ _=K;refine EvC.tm rfl ?_;refine bD.cons ?_;refine qm ?_;refine EvO.nil ⟨rfl,?_⟩;refine bD.cons ?_;refine qm ?_;refine EvO.nil ⟨rfl,?_⟩;refine bD.cons ?_;refine qm ?_;refine EvO.nil ⟨rfl,?_⟩;refine bD.cons ?_;refine qg ?_;refine EvO.nil ⟨rfl,?_⟩;refine bD.cons ?_;refine qp (o:=2) ?_;refine EvO.nil ⟨rfl,?_⟩;refine bD.cons ?_;refine qR ?_;refine EvO.nil ⟨rfl,?_⟩;refine bD.cons ?_;refine qm ?_;refine EvO.nil ⟨rfl,?_⟩;refine bD.cons ?_;refine qg ?_;refine EvO.nil ⟨rfl,?_⟩;refine bD.cons ?_;refine qp (o:=3) ?_;refine EvO.nil ⟨rfl,?_⟩;refine bD.cons ?_;refine qR ?_;refine EvO.nil ⟨rfl,?_⟩;refine bD.cons ?_;obtain⟨_,st,hev,L2,x9,hH⟩:=kO hF hLl hA.ld (fun l hl=>⟨hA.td l hl,uh l hl⟩) hH;have hH:=Has.e5 (_::L2.map jR) [_,_,_,_,_] hH;dsimp only[u3,u4] at hH;refine qv hev ?_;refine EvO.nil ⟨by exact Bool.and_eq_true_iff.2 ⟨fu rfl rfl rfl hb2 (hA.box hH) hb2 Ek,rfl⟩,?_⟩;refine bD.cons ?_;refine qg ?_;refine EvO.nil ⟨rfl,?_⟩;refine bD.cons ?_;refine qp (o:=2) ?_;refine EvO.nil ⟨rfl,?_⟩;refine bD.cons ?_;refine qT hH at0 fun st hH=>?_;dsimp only[u2,u1,u3,u4,setMany,u5,u6,D.cells,Nat.reduceAdd,Pg.cs,aB,ai] at hH;refine EvO.nil ⟨rfl,?_⟩;refine bD.cons ?_;refine qg ?_;refine EvO.nil ⟨rfl,?_⟩;refine bD.cons ?_;refine qp (o:=3) ?_;refine EvO.nil ⟨rfl,?_⟩;refine bD.cons ?_;refine qT hH at0 (fun st hH=>?_) (gM:=hH.ocells at5);dsimp only[u2,u1,u3,u4,setMany,u5,u6,D.cells,Nat.reduceAdd,Pg.cs,aB,ai] at hH;refine EvO.nil ⟨rfl,?_⟩;refine bD.nil ?_;subst hK;refine qq<|qj fun K hK=>qm ?_;refine qm ?_;refine qe hK<|EvC.ret ⟨rx,_,_,_,rfl,rfl,?_⟩;exact⟨kF,ki,_,L2,rfl,x9,pd,qd,P,Q,sn,hH.erase 4,hok,cY⟩
end Go.Proofs.YtnleclohocdkaaaGreat
namespace Go.Proofs.YtnleclohocdkaaaGreat
open Go.V Go
def cB (c:Nat):Nat:=if c<128 then 1 else if c<194 then 0 else if c<224 then 2 else if c<240 then 3 else if c<245 then 4 else 0
def Mv (c:Nat):Nat:=if c=224 then 160 else if c=237 then 128 else if c=240 then 144 else 128
def NU (c:Nat):Nat:=if c=224 then 191 else if c=237 then 159 else if c=240 then 191 else if c=244 then 143 else 191
end Go.Proofs.YtnleclohocdkaaaGreat
namespace Go.Proofs.YtnleclohocdkaaaGreat
open Go.V Go
def zq (c i y:Nat):Bool:=if i=1 then decide (Mv c≤y∧y≤NU c) else decide (128≤y∧y≤191)
def lb (c:Nat):(left i:Nat)→List UInt8→Bool
 |0,_,_=>true
 |_+1,_,[]=>true
 |left+1,i,y::ys=>zq c i y.toNat &&lb c left (i+1) ys
def eM:List UInt8→Nat×Nat
 |[]=>(0,0)
 |c::xs=>if cB c.toNat=0 then(0,0) else if lb c.toNat (cB c.toNat-1) 1 xs=true then(if xs.length+1<cB c.toNat then(xs.length+1,cB c.toNat) else(cB c.toNat,cB c.toNat)) else(0,0)
theorem vp (c:Nat):cB c≤4:=by
 unfold cB
 repeat' split
 all_goals omega
end Go.Proofs.YtnleclohocdkaaaGreat
namespace Go.Proofs.YtnleclohocdkaaaGreat
open Go.V Go
/- the plain law: the two ways to look at the first rune -/
theorem AG (c:Nat):(cB c=0∧(bm c).1=-1)∨(cB c=1∧(bm c).1=0)∨(2≤cB c∧(bm c).1=(cB c:Int)-1∧(bm c).2.1=Mv c∧(bm c).2.2=NU c):=by
 unfold cB bm Mv NU
 by_cases h1:c<128
 ·simp[h1]
 by_cases h2:c<194
 ·simp[h1,h2]
 by_cases h0:245≤c
 ·left;rw[if_neg (by omega),if_neg (by omega),if_neg (by omega),if_neg (by omega),if_neg (by omega),if_neg (by omega),if_neg (by omega),if_neg (by omega),if_neg (by omega),if_neg (by omega),if_neg (by omega),if_neg (by omega),if_neg (by omega),if_neg (by omega)];simp
 right;right
 by_cases h3:c<224
 ·simp only[h1,h2,h3,if_true,if_false];rw[if_neg (by omega),if_neg (by omega),if_neg (by omega),if_neg (by omega),if_neg (by omega),if_neg (by omega),if_neg (by omega)];simp
 by_cases h4:c=224
 ·subst h4;simp
 by_cases h5:c=237
 ·subst h5;simp
 by_cases h6:c<240
 ·simp only[h1,h2,h3,h4,h5,h6,if_true,if_false];rw[if_neg (by omega),if_neg (by omega),if_neg (by omega)];simp
 by_cases h7:c=240
 ·subst h7;simp
 by_cases h8:c<244
 ·simp only[h1,h2,h3,h4,h5,h6,h7,h8,if_true,if_false];rw[if_pos (by omega),if_neg (by omega)];simp
 by_cases h9:c=244
 ·subst h9;simp
 omega
def pW (r:Nat):Nat→List UInt8→Nat
 |0,_=>r
 |_+1,[]=>r
 |left+1,y::ys=>pW (r*64+y.toNat %64) left ys
theorem rS (c n:Nat):∀(left i r lo hi:Nat) (xs:List UInt8),1≤i→(∀y,zq c i y=(decide (lo≤y∧y≤hi)))→
  eV left n r lo hi xs=if lb c left i xs=true then(if xs.length<left then(0,0,true) else(pW r left xs,n,false)) else(0,0,false)
 |0,i,r,lo,hi,xs,_,_=>by simp[eV,lb,pW]
 |left+1,i,r,lo,hi,[],_,_=>by simp[eV,lb]
 |left+1,i,r,lo,hi,y::ys,NX,hg=>by
  simp only[eV,lb,hg,pW]
  by_cases hb:lo≤y.toNat∧y.toNat≤hi
  ·rw[if_neg (by omega),decide_eq_true hb,Bool.true_and];rw[rS c n left (i+1) _ 128 191 ys (by omega) (fun z=>by unfold zq;rw[if_neg (by omega)])];simp only[List.length_cons,Nat.add_lt_add_iff_right]
  ·rw[if_pos (by omega),decide_eq_false hb];simp
def oM (c n:Nat):Nat:=if n≤1 then c else c %(64/2^(n-1))
theorem Bc (c:UInt8) (xs:List UInt8):cn (c::xs)=if cB c.toNat=0 then(0,0,false) else if lb c.toNat (cB c.toNat-1) 1 xs=true then(if xs.length<cB c.toNat-1 then(0,0,true) else(pW (oM c.toNat (cB c.toNat)) (cB c.toNat-1) xs,cB c.toNat,false)) else(0,0,false):=by
 simp only[cn]
 rcases AG c.toNat with⟨h1,h2⟩|⟨h1,h2⟩|⟨h1,h2,h3,h4⟩
 ·rw[h1,h2];simp
 ·rw[h1,h2];simp[eV,lb,pW,oM]
 ·have hk:(bm c.toNat).1.toNat=cB c.toNat-1:=by omega
  rw[if_neg (show¬(bm c.toNat).1<0 by omega),if_neg (show¬cB c.toNat=0 by omega),if_pos (show(bm c.toNat).1>0 by omega),hk,h3,h4];rw[rS c.toNat _ _ 1 _ _ _ _ (by omega) (fun y=>by unfold zq;rw[if_pos rfl])];have:cB c.toNat-1+1=cB c.toNat:=by omega
  rw[this];have h5:oM c.toNat (cB c.toNat)=c.toNat %(64/2^(cB c.toNat-1)):=by unfold oM;rw[if_neg (by omega)]
  rw[h5]
def cj (b:List UInt8):Bool:=(cn b).2.2
theorem yd (b:List UInt8):(cj b=true↔(0<(eM b).1∧(eM b).1<(eM b).2∧(eM b).1=b.length))∧
  (((eM b).1=0∨(eM b).1<(eM b).2)→cD b=(65533,1))∧
  (¬((eM b).1=0∨(eM b).1<(eM b).2)→∃c xs,b=c::xs∧1≤(eM b).2∧(eM b).2≤4∧(eM b).2-1≤xs.length∧cD b=(pW (oM c.toNat (eM b).2) ((eM b).2-1) xs,(eM b).2)):=by
 cases b with
 |nil=>simp[cj,cn,eM,cD]
 |cons c xs=>
  have hn:=vp c.toNat;simp only[cj,cD,Bc,eM]
  by_cases h1:cB c.toNat=0
  ·simp[h1]
  rw[if_neg h1,if_neg h1]
  by_cases h2:lb c.toNat (cB c.toNat-1) 1 xs=true
  ·rw[if_pos h2,if_pos h2]
   by_cases h3:xs.length+1<cB c.toNat
   ·rw[if_pos (by omega),if_pos h3];simp<;>omega
   ·rw[if_neg (by omega),if_neg h3];refine⟨by simp<;>omega,by simp<;>omega,fun _=>⟨c,xs,rfl,by simp only;omega,by simp only;omega,by simp only;omega,?_⟩⟩;simp only;rw[if_neg h1]
  ·rw[if_neg h2,if_neg h2];simp
end Go.Proofs.YtnleclohocdkaaaGreat
namespace Go.Proofs.YtnleclohocdkaaaGreat
open Go.V Go
end Go.Proofs.YtnleclohocdkaaaGreat
namespace Go.Proofs.YtnleclohocdkaaaGreat
open Go.V Go
end Go.Proofs.YtnleclohocdkaaaGreat
namespace Go.Proofs.YtnleclohocdkaaaGreat
open Go.V Go
theorem Ae {st:St} {x y:D} {l:List UInt8} (hx:Bytes st x l) (hy:Bytes st y l) (hl:l.length<4611686018427387904):Ev pv 78 [x,y] st (.bool true) st:=by
 refine Ev.mk1 rfl O1 rfl rfl rfl ?_;refine zE ?_;have hx:=hx.enter .ro;have hy:=hy.enter .ro;have hlen:(V.byteCells l).length=l.length:=aS l;refine zR ?_;refine zU ?_
 refine zW ?_
 refine EvO.len rfl rfl rfl hx rfl ?_
 refine zW ?_
 refine EvO.len rfl rfl rfl hy rfl ?_;refine zX ?_;refine zN ?_;(repeat refine qq ?_);refine qc (fun h1=>?_) (fun h1=>?_)<;>try simp only[cs] at h1
 ·exact absurd trivial h1
 refine EvC.skip<|zR ?_;(repeat refine qq ?_);refine EvC.block<|EvC.loop (fun j fr ab=>∃i:Nat,fr.clean=⟨6,[x,y,.tup [],.tup [],.bool false,.int .i64 (i:Nat)],[]⟩∧ab=enterSt .ro st∧i+j=l.length) l.length ⟨0,rfl,rfl,by omega⟩ ?_;rintro j fr ab ⟨i,hfr,rfl,hij⟩;rw[hfr];refine zU ?_
 refine zW ?_
 refine zW ?_
 refine EvO.len rfl rfl rfl hx rfl ?_;refine zX ?_;refine zN ?_;rw[hlen];(try refine qy ?_);(repeat refine qq ?_);refine qc (fun h2=>?_) (fun h2=>?_)<;>try simp only[cs] at h2
 ·refine EvC.skip ?_;(try refine qy ?_)
  obtain⟨g,hg⟩:∃g,l[i]?=some g:=⟨l[i]'(by omega),List.getElem?_eq_getElem _⟩
  have hr:=hY hg;(try refine qy ?_);(repeat refine qq ?_);refine EvC.block<|zU ?_
  refine zW ?_
  refine zW ?_
  refine EvO.fy rfl rfl rfl (fun _=>rfl) rfl rfl hx rfl rfl (by omega) hr rfl (fun p=>?_)
  refine zW ?_
  refine zW ?_
  refine EvO.fy rfl rfl rfl (fun _=>rfl) rfl rfl hy rfl rfl (by omega) hr rfl (fun p=>?_);refine zX ?_;refine zN ?_;(repeat refine qq ?_);refine qc (fun h3=>?_) (fun h3=>?_)<;>try simp only[cs] at h3
  ·exact absurd trivial h3
  refine EvC.skip<|zR ?_;rw[wrap_i64 (by omega) (by omega)];exact⟨j-1,by omega,i+1,rfl,rfl,by omega⟩
 ·refine EvC.exit<|zR ?_;refine EvC.ret ⟨rx,_,rfl,aY (by simp) (by simp[enterSt]) ?_⟩
  rfl
def eU (y:UInt8):D:=.int .u8 (y.toNat:Nat)
theorem cN (b:List UInt8):(V.byteCells b).flatten=b.map eU:=by
 induction b with
 |nil=>rfl
 |cons y b ih=>simp only[V.byteCells,List.map_cons,List.flatten_cons] at ih⊢;rw[ih];rfl
end Go.Proofs.YtnleclohocdkaaaGreat
namespace Go.Proofs.YtnleclohocdkaaaGreat
open Go.V Go
def bE (h j:List UInt8):List D:=(h++j).map eU++[.int .i64 (h.length:Nat)]
theorem lQ {h j:List UInt8} (hl:(h++j).length=4):(bE h j).length=5:=by simp[bE] at hl⊢;omega
theorem ka {h j:List UInt8} (hl:(h++j).length=4):(bE h j).drop 4=[.int .i64 (h.length:Nat)]:=by
 unfold bE;have:((h++j).map eU).length=4:=by rw[List.length_map,hl]
 rw[←this,List.drop_left]
theorem na {st:St} {k v:Nat} {ar:Bool} {b:List UInt8} {rest:List D} (hm:st.bs[k]?=some (.mem v ar (b.map eU++rest))) {l r:Nat} (tR:l≤r) (hr:r≤b.length):Bytes st (.win k v l (r-l) 1) ((b.take r).drop l):=by
 have hlen:((b.take r).drop l).length=r-l:=by simp;omega
 have:=Rows.win (st:=st) (s:=1) k v l (V.byteCells ((b.take r).drop l)) ar (b.map eU++rest) (St.mem_of hm) (by rw[aS,hlen];simp;omega) fun i e hi=>by
  simp only[V.byteCells,List.getElem?_map] at hi;obtain⟨y,hy,rfl⟩:=Option.map_eq_some_iff.1 hi;rw[List.getElem?_drop,List.getElem?_take] at hy
  split at hy
  ·rename_i hlt;have hb:b[l+i*1]?=some y:=by rw[Nat.mul_one];exact hy
   have h2:(b.map eU++rest)[l+i*1]?=some (eU y):=by
    rw[List.getElem?_append_left (by rw[List.length_map];omega),List.getElem?_map,hb];rfl
   rw[List.take_one,List.head?_drop,h2];rfl
  ·cases hy
 rw[aS,hlen] at this;exact this
theorem FZ {st:St} {k v n:Nat} {h j:List UInt8} (hm:st.bs[k]?=some (.mem v false (bE h j))) (hl:(h++j).length=4) (hn:n≤h.length) (cZ:st.ro≤k):
  Ev pv 124 [.ptr k v 0,.int .i64 (n:Nat)] st (.tup []) ⟨st.bs.set k (.mem v false (bE (h.drop n) ((h++j).drop (h.length-n)))),st.flr,st.ro⟩:=by
 refine Ev.mk1 rfl Lb rfl rfl rfl ?_;refine zE ?_;have jB:(enterSt .rw st).bs[k]?=some (.mem v false (bE h j)):=hm
 have fS:k<st.bs.length:=by
  rcases Nat.lt_or_ge k st.bs.length with h'|h'
  ·exact h'
  ·rw[List.getElem?_eq_none h'] at hm;cases hm
 have jC:=hl;rw[List.length_append] at jC;have hcl:=lQ hl;have n_:=ka hl;have mV:∀S:St,S.ro=st.ro→S.ga k 0=true:=fun S hS=>iz (by omega);(try refine qy ?_);(repeat refine qq ?_);(try generalize hK:SeqQ _ _ _ _=K);refine EvC.reg ?_
 (first|refine xT ?_|refine xL ?_|refine xN ?_|refine xo ?_|refine xp ?_)
 (first|refine xT ?_|refine xL ?_|refine xN ?_|refine xo ?_|refine xp ?_)
 (first|refine xT ?_|refine xL ?_|refine xN ?_|refine xo ?_|refine xp ?_)
 refine EvO.ib (l:=0) (r:=4) rfl rfl rfl rfl rfl jB (by rw[hcl];decide) rfl ?_
 (first|refine xT ?_|refine xL ?_|refine xN ?_|refine xo ?_|refine xp ?_)
 (first|refine xT ?_|refine xL ?_|refine xN ?_|refine xo ?_|refine xp ?_)
 (first|refine xT ?_|refine xL ?_|refine xN ?_|refine xo ?_|refine xp ?_)
 (first|refine xT ?_|refine xL ?_|refine xN ?_|refine xo ?_|refine xp ?_)
 (first|refine xT ?_|refine xL ?_|refine xN ?_|refine xo ?_|refine xp ?_)
 (first|refine xT ?_|refine xL ?_|refine xN ?_|refine xo ?_|refine xp ?_)
 (first|refine xT ?_|refine xL ?_|refine xN ?_|refine xo ?_|refine xp ?_)
 refine EvO.load (k:=k) (aq:=v) (off:=4) rfl rfl rfl jB (d:=.int .i64 (h.length:Nat)) (by rw[n_];rfl) ?_;refine EvO.ib (l:=n) (r:=h.length) rfl rfl rfl rfl rfl jB (by rw[hcl];decide) ?_ ?_
 ·show bd 4 (some (.int .i64 (n:Nat))) (some (.int .i64 (h.length:Nat)))=_;simp only[bd,dS,fQ];rw[if_pos ⟨by omega,by omega⟩];simp only[Option.bind_some];rw[if_pos ⟨by omega,by omega⟩];rfl
 have JL:=na (st:=enterSt .rw st) (l:=n) (r:=h.length) jB hn (by rw[hl];omega);rw[List.take_left] at JL;refine EvO.copy (k:=k) (aq:=v) (off:=0) (len:=4) (s:=1) (ys:=V.byteCells (h.drop n)) (ar:=false) (c:=bE h j) rfl rfl rfl (by show D.win k v (0+n*1) (h.length-n) 1=D.win k v n (h.length-n) 1;congr 1;omega) JL rfl rfl jB (by rw[hcl];decide) ?_ ?_
 ·rw[cN]
  have:∀(b:List UInt8) m,refs ((b.map eU).take m)=0:=by
   intro b m
   induction b generalizing m with
   |nil=>simp[refs]
   |cons y b ih=>cases m with
    |zero=>simp[refs]
    |succ m=>simp only[List.map_cons,List.take_succ_cons,refs,ih];rfl
  rw[this];exact mV _ rfl
 have HU:(bE h j).take 0++(V.byteCells (h.drop n)).flatten.take (min (V.byteCells (h.drop n)).length 4*1)++(bE h j).drop (0+min (V.byteCells (h.drop n)).length 4*1)=(h.drop n++(h++j).drop (h.length-n)).map eU++[.int .i64 (h.length:Nat)]:=by
  have e1:min (V.byteCells (h.drop n)).length 4*1=h.length-n:=by rw[aS,List.length_drop];omega
  rw[e1,cN,List.take_zero,List.nil_append,Nat.zero_add];have e2:((h.drop n).map eU).take (h.length-n)=(h.drop n).map eU:=List.take_of_length_le (by rw[List.length_map,List.length_drop];omega);rw[e2];unfold bE;rw[List.drop_append_of_le_length (by rw[List.length_map,hl];omega),←List.map_drop,List.map_append,List.append_assoc]
 rw[HU];generalize xX:(h++j).drop (h.length-n)=j';have Tf:(h.drop n++j').length=4:=by rw[←xX,List.length_append,List.length_drop,List.length_drop,hl];omega
 refine EvO.nil ?_;(try refine zF ?_);(try subst hK);(try refine qy ?_)
 have xU:((enterSt .rw st).bs.set k (.mem v false ((h.drop n++j').map eU++[.int .i64 (h.length:Nat)])))[k]?=some (.mem v false ((h.drop n++j').map eU++[.int .i64 (h.length:Nat)])):=by
  rw[List.getElem?_set_self (by exact fS)]
 have jf:((h.drop n++j').map eU).length=4:=by rw[List.length_map,Tf]
 generalize hS:(⟨(enterSt .rw st).bs.set k (.mem v false ((h.drop n++j').map eU++[.int .i64 (h.length:Nat)])),(enterSt .rw st).flr,(enterSt .rw st).ro⟩:St)=S;have Da:S.bs[k]?=some (.mem v false ((h.drop n++j').map eU++[.int .i64 (h.length:Nat)])):=by subst hS;exact xU
 refine EvC.reg ?_
 (first|refine xT ?_|refine xL ?_|refine xN ?_|refine xo ?_|refine xp ?_)
 (first|refine xT ?_|refine xL ?_|refine xN ?_|refine xo ?_|refine xp ?_)
 (first|refine xT ?_|refine xL ?_|refine xN ?_|refine xo ?_|refine xp ?_)
 refine EvO.load (k:=k) (aq:=v) (off:=4) rfl rfl rfl Da (d:=.int .i64 (h.length:Nat)) (by rw[←jf,List.drop_left];rfl) ?_
 (first|refine xT ?_|refine xL ?_|refine xN ?_|refine xo ?_|refine xp ?_)
 (first|refine xT ?_|refine xL ?_|refine xN ?_|refine xo ?_|refine xp ?_)
 rw[wrap_i64 (by omega) (by omega)]
 (first|refine xT ?_|refine xL ?_|refine xN ?_|refine xo ?_|refine xp ?_)
 (first|refine xT ?_|refine xL ?_|refine xN ?_|refine xo ?_|refine xp ?_)
 refine EvO.store (k:=k) (aq:=v) (off:=4) (cs:=[.int .i64 ((h.length:Nat)-(n:Nat):Int)]) rfl rfl rfl rfl rfl Da (by rw[List.length_append,jf];exact Nat.le_refl _) (mV S (by subst hS;rfl)) ?_;refine EvO.nil ⟨fun i h=>(by cases h),[],rfl,px ?_ rfl⟩;subst hS;simp only[enterSt,List.set_set];rw[List.take_of_length_le (by simp)]
 congr 2
 unfold bE;rw[List.take_left' jf,List.length_drop];have:(((h.drop n++j').map eU++[D.int .i64 (h.length:Nat)]).drop (4+[D.int .i64 ((h.length:Nat)-(n:Nat):Int)].length))=[]:=List.drop_eq_nil_of_le (by simp[jf];simp at jf;omega);have e4:((h.length:Nat):Int)-(n:Nat)=((h.length-n:Nat):Int):=by omega
 rw[this,List.append_nil,e4,xX]
def dq:Nat→List UInt8→List (Nat×Nat)×List UInt8
 |0,l=>([],l)
 |_+1,[]=>([],[])
 |f+1,c::l=>if cj (c::l)=true then([],c::l) else(cD (c::l)::(dq f ((c::l).drop (cD (c::l)).2)).1,(dq f ((c::l).drop (cD (c::l)).2)).2)
def dx (h:List UInt8) (c:UInt8):List (Nat×Nat)×List UInt8:=dq (h.length+1) (h++[c])
def jF:Nat→List UInt8→List UInt8→List UInt8
 |0,_,j=>j
 |_+1,[],j=>j
 |f+1,c::l,j=>if cj (c::l)=true then j else jF f ((c::l).drop (cD (c::l)).2) ((c::l++j).drop ((c::l).length-(cD (c::l)).2))
theorem DL {h js:List UInt8} {j0 c:UInt8} (hl:(h++j0::js).length=4):(bE h (j0::js)).take (0+0+h.length*1)++[eU c]++(bE h (j0::js)).drop (0+0+h.length*1+1)=(h++c::js).map eU++[.int .i64 (h.length:Nat)]:=by
 have e:0+0+h.length*1=(h.map eU).length:=by rw[List.length_map];omega
 have e2:bE h (j0::js)=h.map eU++(eU j0::(js.map eU++[.int .i64 (h.length:Nat)])):=by simp[bE]
 rw[e,e2,List.take_left,←List.drop_drop,List.drop_left];simp
theorem rh {N k s:Nat} {st:St} {x:D} {es:List (List D)} (hk:k<N) (h:V.Acc N st s x es) (bx:fV):V.Acc N ⟨st.bs.set k bx,st.flr,st.ro⟩ s x es:=by
 cases h with
 |nul=>exact .nul
 |win k2 Mb es Up FL he=>exact .win k2 Mb _ Up (by simp only;rw[List.getElem?_set_ne (by omega)];exact FL) he
theorem F9 {st:St} {k v:Nat} {h js:List UInt8} {j0 c:UInt8} (hm:st.bs[k]?=some (.mem v false (bE h (j0::js)))) (hl:(h++j0::js).length=4) (cZ:st.ro≤k):
  Ev pv 109 [.ptr k v 0,.int .u8 (c.toNat:Nat)] st (dv (dx h c).1) ⟨st.bs.set k (.mem v false (bE (dx h c).2 (jF (h.length+1) (h++[c]) js))),st.flr,st.ro⟩:=by
 have fS:k<st.bs.length:=by
  rcases Nat.lt_or_ge k st.bs.length with h'|h'
  ·exact h'
  ·rw[List.getElem?_eq_none h'] at hm;cases hm
 have jC:=hl;rw[List.length_append,List.length_cons] at jC;refine Ev.mk1 rfl Lk rfl rfl rfl ?_;refine zE ?_;have jB:(enterSt .rw st).bs[k]?=some (.mem v false (bE h (j0::js))):=hm;have n_:=ka hl;have hcl:=lQ hl;have mV:∀S:St,S.ro=st.ro→S.ga k 0=true:=fun S hS=>iz (by omega);(try refine qy ?_);(repeat refine qq ?_);(try generalize hK:SeqQ _ _ _ _=K);refine EvC.reg ?_;(repeat(first|refine xT ?_|refine xL ?_|refine xN ?_|refine xo ?_|refine xp ?_));refine EvO.nil ?_;(try refine zF ?_);(try subst hK);(try refine qy ?_);(repeat refine qq ?_);(try generalize hK:SeqQ _ _ _ _=K);refine EvC.reg ?_
 (first|refine xT ?_|refine xL ?_|refine xN ?_|refine xo ?_|refine xp ?_)
 (first|refine xT ?_|refine xL ?_|refine xN ?_|refine xo ?_|refine xp ?_)
 (first|refine xT ?_|refine xL ?_|refine xN ?_|refine xo ?_|refine xp ?_)
 (first|refine xT ?_|refine xL ?_|refine xN ?_|refine xo ?_|refine xp ?_)
 refine EvO.load (k:=k) (aq:=v) (off:=4) rfl rfl rfl jB (d:=.int .i64 (h.length:Nat)) (by rw[n_];rfl) ?_
 (first|refine xT ?_|refine xL ?_|refine xN ?_|refine xo ?_|refine xp ?_)
 (first|refine xT ?_|refine xL ?_|refine xN ?_|refine xo ?_|refine xp ?_)
 (first|refine xT ?_|refine xL ?_|refine xN ?_|refine xo ?_|refine xp ?_)
 refine EvO.Hb (k:=k) (v:=v) (off:=0+0) (m:=4) (s:=1) (i:=h.length) rfl rfl rfl rfl rfl rfl (by omega) ?_;refine EvO.store (k:=k) (aq:=v) (off:=0+0+h.length*1) (cs:=[eU c]) rfl rfl rfl rfl rfl jB (by rw[hcl];simp;omega) (mV _ rfl) ?_;rw[show(bE h (j0::js)).take (0+0+h.length*1)++[eU c]++(bE h (j0::js)).drop (0+0+h.length*1+[eU c].length)=(h++c::js).map eU++[.int .i64 (h.length:Nat)] from DL hl];have jf:((h++c::js).map eU).length=4:=by simp;omega
 have hx0:yG st.bs.length k (enterSt .rw st) ⟨(enterSt .rw st).bs.set k (.mem v false ((h++c::js).map eU++[.int .i64 (h.length:Nat)])),(enterSt .rw st).flr,(enterSt .rw st).ro⟩:=yG.put ⟨fun _ _ _=>rfl,Nat.le_refl _,rfl,rfl⟩ _;generalize Ow:(⟨(enterSt .rw st).bs.set k (.mem v false ((h++c::js).map eU++[.int .i64 (h.length:Nat)])),(enterSt .rw st).flr,(enterSt .rw st).ro⟩:St)=S1 at hx0⊢;have xU:S1.bs[k]?=some (.mem v false ((h++c::js).map eU++[.int .i64 (h.length:Nat)])):=by subst Ow;exact List.getElem?_set_self fS
 refine EvO.nil ?_;(try refine zF ?_);(try subst hK);(try refine qy ?_);(repeat refine qq ?_);(try generalize hK:SeqQ _ _ _ _=K);refine EvC.reg ?_
 (first|refine xT ?_|refine xL ?_|refine xN ?_|refine xo ?_|refine xp ?_)
 (first|refine xT ?_|refine xL ?_|refine xN ?_|refine xo ?_|refine xp ?_)
 (first|refine xT ?_|refine xL ?_|refine xN ?_|refine xo ?_|refine xp ?_)
 refine EvO.load (k:=k) (aq:=v) (off:=4) rfl rfl rfl xU (d:=.int .i64 (h.length:Nat)) (by rw[←jf,List.drop_left];rfl) ?_
 (first|refine xT ?_|refine xL ?_|refine xN ?_|refine xo ?_|refine xp ?_)
 rw[wrap_i64 (by omega) (by omega)]
 (first|refine xT ?_|refine xL ?_|refine xN ?_|refine xo ?_|refine xp ?_)
 (first|refine xT ?_|refine xL ?_|refine xN ?_|refine xo ?_|refine xp ?_)
 refine EvO.store (k:=k) (aq:=v) (off:=4) (cs:=[.int .i64 ((h.length:Nat)+1:Int)]) rfl rfl rfl rfl rfl xU (by rw[List.length_append,jf];exact Nat.le_refl _) (mV S1 (by subst Ow;rfl)) ?_
 have pP:((h++c::js).map eU++[D.int .i64 (h.length:Nat)]).take 4++[.int .i64 ((h.length:Nat)+1:Int)]++((h++c::js).map eU++[D.int .i64 (h.length:Nat)]).drop (4+[D.int .i64 ((h.length:Nat)+1:Int)].length)=bE (h++[c]) js:=by
  rw[List.take_left' jf,List.drop_eq_nil_of_le (by rw[List.length_append,jf];exact Nat.le_refl _),List.append_nil];unfold bE;simp
 rw[pP];have hx1:=hx0.put (.mem v false (bE (h++[c]) js));have Da:(⟨S1.bs.set k (.mem v false (bE (h++[c]) js)),S1.flr,S1.ro⟩:St).bs[k]?=some (.mem v false (bE (h++[c]) js)):=List.getElem?_set_self (by have:=hx0.len;have e:(enterSt .rw st).bs.length=st.bs.length:=rfl;omega);generalize(⟨S1.bs.set k (.mem v false (bE (h++[c]) js)),S1.flr,S1.ro⟩:St)=S2 at hx1 Da⊢;refine EvO.nil ?_;(try refine zF ?_);(try subst hK);(try refine qy ?_);(repeat refine qq ?_);(try generalize hK:SeqQ _ _ _ _=K);refine EvC.reg ?_;(repeat(first|refine xT ?_|refine xL ?_|refine xN ?_|refine xo ?_|refine xp ?_));refine EvO.nil ?_;(try refine zF ?_);(try subst hK);(try refine qy ?_);(repeat refine qq ?_);refine EvC.block ?_;have hlt:((h++[c])++js).length=4:=by simp;omega
 generalize Ux:SeqQ _ _ _ _=K0
 have fin:∀(ab:St) (done:List (Nat×Nat)) (out r n bg:D) (m2:List (Nat×D)) (j:List UInt8),yG st.bs.length k (enterSt .rw st) ab→Acc st.bs.length ab 2 out (done.map aL)→ab.bs[k]?=some (.mem v false (bE (dx h c).2 j))→done=(dx h c).1→j=jF (h.length+1) (h++[c]) js→
   K0 .next ⟨9,[.ptr k v 0,.int .u8 (c.toNat:Nat),.tup [],.tup [],.nul,out,r,n,bg],m2⟩ ab:=by
  intro ab done out r n bg m2 j hx mW hm hd hj;subst Ux;(try refine qy ?_);(repeat refine qq ?_);(try generalize hK:SeqQ _ _ _ _=K);refine EvC.reg ?_;(repeat(first|refine xT ?_|refine xL ?_|refine xN ?_|refine xo ?_|refine xp ?_));refine EvO.nil ?_;(try refine zF ?_);(try subst hK);(try refine qy ?_);refine EvC.ret ⟨rx,_,rfl,px ?_ ?_⟩
  ·have:=hx.take (a:=enterSt .rw st) fS hm;rw[←hj];exact this
  ·rw[←hd];exact mW.freeze iU (n:=15) (by decide)
 refine EvC.loop (fun m fr ab=>∃(f:Nat) (l j:List UInt8) (done:List (Nat×Nat)) (out r n bg:D),fr.clean=⟨9,[.ptr k v 0,.int .u8 (c.toNat:Nat),.tup [],.tup [],.nul,out,r,n,bg],[]⟩∧ab.bs[k]?=some (.mem v false (bE l j))∧(l++j).length=4∧yG st.bs.length k (enterSt .rw st) ab∧
  Acc st.bs.length ab 2 out (done.map aL)∧m=l.length∧l.length≤f∧done++(dq f l).1=(dx h c).1∧(dq f l).2=(dx h c).2∧jF f l j=jF (h.length+1) (h++[c]) js∧done.length+l.length≤4) (h.length+1)
  ⟨h.length+1,h++[c],js,[],.nul,_,_,_,rfl,Da,hlt,hx1,.nul,by simp,by simp,rfl,rfl,rfl,by simp;omega⟩ ?_
 clear Da hx1 pP xU hx0 Ow;rintro m fr ab ⟨f,l,j,done,out,r,n,bg,hfr,vO,HD,hx,mW,rfl,Tc,Hj,JK,hj,LX⟩;rw[hfr];have QF:=ka HD;have hN:st.bs.length≤ab.bs.length:=hx.len;have Dg:ab.flr=st.bs.length:=by rw[hx.flr];rfl
 have M5:ab.ro=st.ro:=by rw[hx.ro];rfl
 (try refine qy ?_);(repeat refine qq ?_);(try generalize hK:SeqQ _ _ _ _=K);refine EvC.reg ?_
 (first|refine xT ?_|refine xL ?_|refine xN ?_|refine xo ?_|refine xp ?_)
 (first|refine xT ?_|refine xL ?_|refine xN ?_|refine xo ?_|refine xp ?_)
 (first|refine xT ?_|refine xL ?_|refine xN ?_|refine xo ?_|refine xp ?_)
 refine EvO.load (k:=k) (aq:=v) (off:=4) rfl rfl rfl vO (d:=.int .i64 (l.length:Nat)) (by rw[QF];rfl) ?_;(repeat(first|refine xT ?_|refine xL ?_|refine xN ?_|refine xo ?_|refine xp ?_));refine EvO.nil ?_;(try refine zF ?_);(try subst hK);(try refine qy ?_);(repeat refine qq ?_);refine qc (fun h1=>?_) (fun h1=>?_)<;>try simp only[cs] at h1
 ·refine EvC.skip ?_;(try refine qy ?_)
  obtain⟨c0,l,rfl⟩:∃a b,l=a::b:=by cases l with|nil=>simp at h1|cons a b=>exact⟨a,b,rfl⟩
  obtain⟨f,rfl⟩:∃f',f=f'+1:=⟨f-1,by simp only[List.length_cons] at Tc;omega⟩
  have Te:=HD;rw[List.length_append] at Te;have hne:(c0::l)≠[]:=by simp
  have FO:cj (c0::l)=(cn (c0::l)).2.2:=rfl;generalize hll:c0::l=ll at*;have Gu:dq (f+1) ll=if cj ll=true then([],ll) else(cD ll::(dq f (ll.drop (cD ll).2)).1,(dq f (ll.drop (cD ll).2)).2):=by rw[←hll];rfl
  have Qx:jF (f+1) ll j=if cj ll=true then j else jF f (ll.drop (cD ll).2) ((ll++j).drop (ll.length-(cD ll).2)):=by rw[←hll];rfl
  have Oh:=lQ HD;have CU:=na (st:=ab) (l:=0) (r:=ll.length) vO (Nat.zero_le _) (by rw[List.length_append];omega);rw[List.take_left,List.drop_zero] at CU;(try refine qy ?_);(repeat refine qq ?_);refine EvC.block ?_;(try refine qy ?_);(repeat refine qq ?_);(try generalize hK:SeqQ _ _ _ _=K);refine EvC.reg ?_
  (first|refine xT ?_|refine xL ?_|refine xN ?_|refine xo ?_|refine xp ?_)
  (first|refine xT ?_|refine xL ?_|refine xN ?_|refine xo ?_|refine xp ?_)
  (first|refine xT ?_|refine xL ?_|refine xN ?_|refine xo ?_|refine xp ?_)
  (first|refine xT ?_|refine xL ?_|refine xN ?_|refine xo ?_|refine xp ?_)
  (first|refine xT ?_|refine xL ?_|refine xN ?_|refine xo ?_|refine xp ?_)
  (first|refine xT ?_|refine xL ?_|refine xN ?_|refine xo ?_|refine xp ?_)
  refine EvO.load (k:=k) (aq:=v) (off:=4) rfl rfl rfl vO (d:=.int .i64 (ll.length:Nat)) (by rw[QF];rfl) ?_;refine EvO.ib (l:=0) (r:=ll.length) rfl rfl rfl rfl rfl vO (by rw[Oh];decide) ?_ ?_
  ·show bd 4 none (some (.int .i64 (ll.length:Nat)))=_;simp only[bd,dS,fQ];rw[if_pos ⟨by omega,by omega⟩];rfl
  refine EvO.qK rfl rfl rfl (d:=.tup [.int .i32 ((cn ll).1:Nat),.int .i64 ((cn ll).2.1:Nat),.bool (cn ll).2.2]) (st1:=ab) (pX CU) ?_;(repeat(first|refine xT ?_|refine xL ?_|refine xN ?_|refine xo ?_|refine xp ?_));refine EvO.nil ?_;(try refine zF ?_);(try subst hK);(try refine qy ?_);(repeat refine qq ?_);(try generalize hK:SeqQ _ _ _ _=K);refine EvC.reg ?_;(repeat(first|refine xT ?_|refine xL ?_|refine xN ?_|refine xo ?_|refine xp ?_));refine EvO.nil ?_;(try refine zF ?_);(try subst hK);(try refine qy ?_);(repeat refine qq ?_);refine qc (fun h2=>?_) (fun h2=>?_)<;>try simp only[cs] at h2
  ·refine EvC.exit ?_;rw[←FO] at h2;rw[Gu,if_pos h2] at Hj JK;rw[Qx,if_pos h2] at hj;refine fin ab done out _ _ _ _ j hx mW ?_ ?_ hj
   ·rw[←JK];exact vO
   ·rw[←Hj,List.append_nil]
  refine EvC.skip ?_;(try refine qy ?_);have I2:¬cj ll=true:=by rw[FO,h2];simp
  rw[Gu,if_neg I2] at Hj JK;rw[Qx,if_neg I2] at hj;have hg4:=oy hne;have V1:=fF ll;generalize hf:cn ll=F at*;obtain⟨r0,n0,U4⟩:=F;(try refine qy ?_);(repeat refine qq ?_);(try generalize hK:SeqQ _ _ _ _=K);refine EvC.reg ?_;(repeat(first|refine xT ?_|refine xL ?_|refine xN ?_|refine xo ?_|refine xp ?_));refine EvO.nil ?_;(try refine zF ?_);(try subst hK);(try refine qy ?_);generalize hK:SeqQ _ _ _ _=K
  have H:∀m2,K .next ⟨9,[.ptr k v 0,.int .u8 (c.toNat:Nat),.tup [],.tup [],.nul,out,.int .i32 ((cD ll).1:Nat),.int .i64 ((cD ll).2:Nat),.bool U4],m2⟩ ab:=by
   intro m2;subst hK;generalize hg:cD ll=g at*;(try refine qy ?_);(repeat refine qq ?_);(try generalize hK:SeqQ _ _ _ _=K);refine EvC.reg ?_
   (first|refine xT ?_|refine xL ?_|refine xN ?_|refine xo ?_|refine xp ?_)
   (first|refine xT ?_|refine xL ?_|refine xN ?_|refine xo ?_|refine xp ?_)
   (first|refine xT ?_|refine xL ?_|refine xN ?_|refine xo ?_|refine xp ?_)
   refine EvO.T rfl rfl rfl (d:=.agg (aL g)) (st1:=ab) rfl ?_;refine EvO.T rfl rfl rfl (d:=.win ab.bs.length 0 0 1 2) (st1:=ab.push (.mem 0 true (aL g))) rfl ?_;refine EvO.append rfl rfl rfl rfl (mW.push _) (Rows.one rfl) rfl rfl rfl rfl rfl rfl rfl (by decide) (by simp[St.push];omega) (by show ab.flr≤_;omega) (by show ab.ro≤_;omega) (by simp only[List.length_map,List.length_cons,List.length_nil];show(done.length+1)*16≤_;omega) fun Cl st2 vX vR _ sE _=>?_;(repeat(first|refine xT ?_|refine xL ?_|refine xN ?_|refine xo ?_|refine xp ?_));refine EvO.nil ?_;(try refine zF ?_);(try subst hK);(try refine qy ?_);have CP:yG st.bs.length k (enterSt .rw st) st2:=(hx.of (Ex.push hN (.mem 0 true (aL g)))).of vR
   have IP:st2.bs[k]?=some (.mem v false (bE ll j)):=by
    rw[vR.low k (by omega)];simp only[St.push];rw[List.getElem?_append_left (by omega)];exact vO
   have JR:st2.ro=st.ro:=by rw[CP.ro];rfl
   (try refine qy ?_);(repeat refine qq ?_);(try generalize hK:SeqQ _ _ _ _=K);refine EvC.reg ?_
   (first|refine xT ?_|refine xL ?_|refine xN ?_|refine xo ?_|refine xp ?_)
   (first|refine xT ?_|refine xL ?_|refine xN ?_|refine xo ?_|refine xp ?_)
   refine EvO.qK rfl rfl rfl (FZ IP HD hg4 (by omega)) ?_;(repeat(first|refine xT ?_|refine xL ?_|refine xN ?_|refine xo ?_|refine xp ?_));refine EvO.nil ?_;(try refine zF ?_);(try subst hK);(try refine qy ?_);have hk2:k<st2.bs.length:=by have:=CP.len;have e:(enterSt .rw st).bs.length=st.bs.length:=rfl;omega
   refine⟨(ll.drop g.2).length,by rw[List.length_drop];omega,f,ll.drop g.2,(ll++j).drop (ll.length-g.2),done++[g],Cl,_,_,_,rfl,List.getElem?_set_self hk2,?_,CP.put _,?_,rfl,?_,?_,JK,hj,?_⟩
   ·rw[List.length_append,List.length_drop,List.length_drop,HD];omega
   ·rw[List.map_append];exact rh fS vX _
   ·rw[List.length_drop];omega
   ·rw[←Hj,List.append_assoc,List.singleton_append]
   ·rw[List.length_append,List.length_drop];simp only[List.length_cons,List.length_nil];omega
  (try refine qy ?_);(repeat refine qq ?_);refine qc (fun h5=>?_) (fun h5=>?_)<;>try simp only[cs] at h5
  ·refine EvC.reg ?_;(repeat(first|refine xT ?_|refine xL ?_|refine xN ?_|refine xo ?_|refine xp ?_));refine EvO.nil ?_;(try refine zF ?_);have:cD ll=(65533,1):=by unfold cD;rw[hf,if_pos (by simpa using h5)]
   rw[this] at H;exact H _
  ·refine EvC.skip ?_;have:cD ll=(r0,n0):=by unfold cD;rw[hf,if_neg (by simpa using h5)]
   rw[this] at H;exact H _
 ·refine EvC.exit ?_
  obtain rfl:l=[]:=by cases l with|nil=>rfl|cons a b=>simp at h1<;>omega
  refine fin ab done out r n bg _ j hx mW ?_ ?_ ?_
  ·have:(dx h c).2=[]:=by rw[←JK];cases f<;>rfl
   rw[this];exact vO
  ·have:(dq f ([]:List UInt8)).1=[]:=by cases f<;>rfl
   rw[←Hj,this,List.append_nil]
  ·rw[←hj];cases f<;>rfl
def iZ (n:Nat):List (Nat×Nat):=List.replicate n (65533,1)
theorem Ie {st:St} {k v:Nat} {h j:List UInt8} (hm:st.bs[k]?=some (.mem v false (bE h j))) (hl:(h++j).length=4) (cZ:st.ro≤k):
  Ev pv 83 [.ptr k v 0] st (dv (iZ h.length)) ⟨st.bs.set k (.mem v false (bE [] (h++j))),st.flr,st.ro⟩:=by
 have fS:k<st.bs.length:=by
  rcases Nat.lt_or_ge k st.bs.length with h'|h'
  ·exact h'
  ·rw[List.getElem?_eq_none h'] at hm;cases hm
 have jC:=hl;rw[List.length_append] at jC;refine Ev.mk1 rfl OW rfl rfl rfl ?_;refine zE ?_;have jf:((h++j).map eU).length=4:=by rw[List.length_map,hl]
 have mV:∀S:St,S.ro=st.ro→S.ga k 0=true:=fun S hS=>iz (by omega);have NJ:(enterSt .rw st).bs[k]?=some (.mem v false ((h++j).map eU++[.int .i64 (h.length:Nat)])):=hm;refine zR ?_;refine zR ?_;(repeat refine qq ?_);refine EvC.block<|EvC.loop (fun m fr ab=>∃(done:Nat) (out:D),fr.clean=⟨4,[.ptr k v 0,.tup [],.nul,out],[]⟩∧ab.bs[k]?=some (.mem v false ((h++j).map eU++[.int .i64 (m:Nat)]))∧yG st.bs.length k (enterSt .rw st) ab∧Acc st.bs.length ab 2 out ((iZ done).map aL)∧done+m=h.length) h.length
  ⟨0,.nul,rfl,NJ,⟨fun _ _ _=>rfl,Nat.le_refl _,rfl,rfl⟩,.nul,by omega⟩ ?_
 rintro m fr ab ⟨done,out,hfr,vO,hx,mW,hdm⟩;rw[hfr];have hN:st.bs.length≤ab.bs.length:=hx.len;have Dg:ab.flr=st.bs.length:=by rw[hx.flr];rfl
 have M5:ab.ro=st.ro:=by rw[hx.ro];rfl
 refine zU ?_
 refine zW ?_
 refine zW ?_
 refine zW ?_
 refine EvO.load (k:=k) (aq:=v) (off:=4) rfl rfl rfl vO (d:=.int .i64 (m:Nat)) (by rw[←jf,List.drop_left];rfl) ?_;refine zX ?_;refine zN ?_;(repeat refine qq ?_);refine qc (fun h1=>?_) (fun h1=>?_)<;>try simp only[cs] at h1
 ·refine EvC.skip ?_;(try refine qy ?_)
  obtain⟨m,rfl⟩:∃m',m=m'+1:=⟨m-1,by omega⟩
  (try refine qy ?_);(repeat refine qq ?_);refine EvC.block<|zU ?_
  refine zW ?_
  refine EvO.T rfl rfl rfl (d:=.agg (aL (65533,1))) (st1:=ab) rfl ?_;refine EvO.T rfl rfl rfl (d:=.win ab.bs.length 0 0 1 2) (st1:=ab.push (.mem 0 true (aL (65533,1)))) rfl ?_;refine EvO.append rfl rfl rfl rfl (mW.push _) (Rows.one rfl) rfl rfl rfl rfl rfl rfl rfl (by decide) (by simp[St.push];omega) (by show ab.flr≤_;omega) (by show ab.ro≤_;omega) (by simp only[List.length_map,List.length_cons,List.length_nil,iZ,List.length_replicate];show(done+1)*16≤_;omega) fun Cl st2 vX vR _ sE _=>?_;refine zX ?_;refine zN ?_;have CP:yG st.bs.length k (enterSt .rw st) st2:=(hx.of (Ex.push hN (.mem 0 true (aL (65533,1))))).of vR
  have IP:st2.bs[k]?=some (.mem v false ((h++j).map eU++[.int .i64 ((m+1:Nat):Int)])):=by
   rw[vR.low k (by omega)];simp only[St.push];rw[List.getElem?_append_left (by omega)];exact vO
  have JR:st2.ro=st.ro:=by rw[CP.ro];rfl
  have hk2:k<st2.bs.length:=by have:=CP.len;have e:(enterSt .rw st).bs.length=st.bs.length:=rfl;omega
  refine zU ?_
  refine zW ?_
  refine zW ?_
  refine zW ?_
  refine EvO.load (k:=k) (aq:=v) (off:=4) rfl rfl rfl IP (d:=.int .i64 ((m+1:Nat):Int)) (by rw[←jf,List.drop_left];rfl) ?_
  refine zW ?_
  rw[wrap_i64 (by omega) (by omega),show((m+1:Nat):Int)-1=(m:Nat) by omega]
  refine zW ?_
  refine zW ?_
  refine EvO.store (k:=k) (aq:=v) (off:=4) (cs:=[.int .i64 (m:Nat)]) rfl rfl rfl rfl rfl IP (by rw[List.length_append,jf];exact Nat.le_refl _) (mV st2 JR) ?_
  have pP:((h++j).map eU++[D.int .i64 ((m+1:Nat):Int)]).take 4++[.int .i64 (m:Nat)]++((h++j).map eU++[D.int .i64 ((m+1:Nat):Int)]).drop (4+[D.int .i64 (m:Nat)].length)=(h++j).map eU++[.int .i64 (m:Nat)]:=by
   rw[List.take_left' jf,List.drop_eq_nil_of_le (by rw[List.length_append,jf];exact Nat.le_refl _),List.append_nil]
  rw[pP];refine zN ?_;refine⟨m,by omega,done+1,Cl,rfl,List.getElem?_set_self hk2,CP.put _,?_,by omega⟩
  have:(iZ (done+1)).map aL=(iZ done).map aL++[aL (65533,1)]:=by
   unfold iZ;rw[List.replicate_succ',List.map_append];rfl
  rw[this];exact rh fS vX _
 ·refine EvC.exit ?_;have jB:m=0:=by omega
  subst jB;have hd:done=h.length:=by omega
  subst hd;refine zR ?_;refine EvC.ret ⟨rx,_,rfl,px ?_ ?_⟩
  ·exact hx.take (a:=enterSt .rw st) fS vO
  ·exact mW.freeze iU (n:=15) (by decide)
theorem xv (st:St):Ev pv 76 [] st (.ptr st.bs.length 0 0) (st.push (.mem 0 false (bE [] [0,0,0,0]))):=by
 refine Ev.mk1 rfl O3 rfl rfl rfl ?_;refine zE ?_;refine zR ?_;refine zR ?_;exact EvC.ret ⟨rx,_,rfl,rfl⟩
theorem Jj {st:St} {x:D} {h:List UInt8} (hb:Bytes st x h) (hok:cj h=true∨h=[]) (h3:h.length≤3) (cZ:st.ro≤st.bs.length):
  Ev pv 80 [x] st (.tup [.ptr st.bs.length 0 0,.int .i64 0]) (st.push (.mem 0 false (bE h (([0,0,0,0]:List UInt8).drop h.length)))):=by
 have hx:=hb.ref;have hbl:=aS h;refine Ev.mk1 rfl OZ rfl rfl rfl ?_;refine zE ?_;refine zR ?_;refine zU ?_
 refine zW ?_
 refine EvO.qK rfl rfl rfl (pX hb) ?_;refine zX ?_;refine zN ?_;have FO:(cn h).2.2=cj h:=rfl;rw[FO];generalize(cn h).1=r0;generalize(cn h).2.1=n0
 cases T_:cj h with
 |true=>
  refine zR ?_;(repeat refine qq ?_);refine EvC.cond (v:=false) rfl (fun h=>by cases h) fun _=>?_;(try refine qy ?_);refine EvC.skip ?_;(try refine qy ?_);have jB:(st.push (.mem 0 false (bE [] [0,0,0,0]))).bs[st.bs.length]?=some (.mem 0 false (bE [] [0,0,0,0])):=iI st _;have hb1:Bytes (st.push (.mem 0 false (bE [] [0,0,0,0]))) x h:=hb.ex (Ex.push (Nat.le_refl _) _) hx;have mV:∀S:St,S.ro=st.ro→S.ga st.bs.length 0=true:=fun S hS=>iz (by omega);refine zU ?_;refine EvO.qK rfl rfl rfl (xv st) ?_;refine zX ?_;refine zN ?_;refine zU ?_
  refine zW ?_
  refine zW ?_
  refine zW ?_
  refine zW ?_
  refine EvO.ib (k:=st.bs.length) (v:=0) (off:=0) (l:=0) (r:=4) rfl rfl rfl rfl rfl jB (by decide) rfl ?_
  refine zW ?_
  refine EvO.copy (k:=st.bs.length) (aq:=0) (off:=0) (len:=4) (s:=1) (ys:=V.byteCells h) (ar:=false) (c:=bE [] [0,0,0,0]) rfl rfl rfl rfl hb1 rfl rfl jB (by decide) ?_ ?_
  ·rw[cN]
   have:∀(b:List UInt8) m,refs ((b.map eU).take m)=0:=by
    intro b m
    induction b generalizing m with
    |nil=>simp[refs]
    |cons y b ih=>cases m with
     |zero=>simp[refs]
     |succ m=>simp only[List.map_cons,List.take_succ_cons,refs,ih];rfl
   rw[this];exact mV _ rfl
  have vN:min (V.byteCells h).length 4=h.length:=by omega
  rw[vN,cN]
  have HU:(bE [] [0,0,0,0]).take 0++(h.map eU).take (h.length*1)++(bE [] [0,0,0,0]).drop (0+h.length*1)=(h++([0,0,0,0]:List UInt8).drop h.length).map eU++[.int .i64 0]:=by
   rw[List.take_zero,List.nil_append,Nat.mul_one,Nat.zero_add];have e1:(h.map eU).take h.length=h.map eU:=List.take_of_length_le (by simp);rw[e1,List.map_append,List.append_assoc]
   congr 1
   show([0,0,0,0].map eU++[D.int .i64 0]).drop h.length=_;rw[List.drop_append_of_le_length (by simp;omega),List.map_drop]
  rw[HU];have hlt:((h++([0,0,0,0]:List UInt8).drop h.length).map eU).length=4:=by simp;omega
  have hT:∃T:List D,T=(h++([0,0,0,0]:List UInt8).drop h.length).map eU:=⟨_,rfl⟩
  obtain⟨T,hT⟩:=hT;rw[←hT] at hlt⊢;have zh:∀b b':fV,(⟨(st.push b).bs.set st.bs.length b',(st.push b).flr,(st.push b).ro⟩:St)=st.push b':=fun b b'=>uY rfl
  refine zW ?_
  refine zW ?_
  rw[zh];refine EvO.store (k:=st.bs.length) (aq:=0) (off:=4) (cs:=[.int .i64 (h.length:Nat)]) rfl rfl rfl rfl rfl (iI st _) (by rw[List.length_append,hlt];exact Nat.le_refl _) (mV _ rfl) ?_;rw[zh]
  have pP:(T++[D.int .i64 0]).take 4++[.int .i64 (h.length:Nat)]++(T++[D.int .i64 0]).drop (4+[D.int .i64 (h.length:Nat)].length)=bE h (([0,0,0,0]:List UInt8).drop h.length):=by
   rw[List.take_left' hlt,List.drop_eq_nil_of_le (by rw[List.length_append,hlt];exact Nat.le_refl _),List.append_nil,hT]
   rfl
  rw[pP];refine zN ?_;refine zR ?_;exact EvC.ret ⟨rx,_,rfl,rfl⟩
 |false=>
  have Eo:h.length=0:=by
   rcases hok with h'|h'
   ·rw[T_] at h';cases h'
   ·rw[h'];rfl
  refine zU ?_
  refine zW ?_
  refine zW ?_
  refine zW ?_
  refine zW ?_
  refine EvO.len rfl rfl rfl hb rfl ?_;rw[hbl];refine zY ?_;refine zN ?_;(repeat refine qq ?_);refine EvC.cond (v:=false) rfl (fun h=>by cases h) fun _=>?_;(try refine qy ?_);refine EvC.skip ?_;(try refine qy ?_);have jB:(st.push (.mem 0 false (bE [] [0,0,0,0]))).bs[st.bs.length]?=some (.mem 0 false (bE [] [0,0,0,0])):=iI st _;have hb1:Bytes (st.push (.mem 0 false (bE [] [0,0,0,0]))) x h:=hb.ex (Ex.push (Nat.le_refl _) _) hx;have mV:∀S:St,S.ro=st.ro→S.ga st.bs.length 0=true:=fun S hS=>iz (by omega);refine zU ?_;refine EvO.qK rfl rfl rfl (xv st) ?_;refine zX ?_;refine zN ?_;refine zU ?_
  refine zW ?_
  refine zW ?_
  refine zW ?_
  refine zW ?_
  refine EvO.ib (k:=st.bs.length) (v:=0) (off:=0) (l:=0) (r:=4) rfl rfl rfl rfl rfl jB (by decide) rfl ?_
  refine zW ?_
  refine EvO.copy (k:=st.bs.length) (aq:=0) (off:=0) (len:=4) (s:=1) (ys:=V.byteCells h) (ar:=false) (c:=bE [] [0,0,0,0]) rfl rfl rfl rfl hb1 rfl rfl jB (by decide) ?_ ?_
  ·rw[cN]
   have:∀(b:List UInt8) m,refs ((b.map eU).take m)=0:=by
    intro b m
    induction b generalizing m with
    |nil=>simp[refs]
    |cons y b ih=>cases m with
     |zero=>simp[refs]
     |succ m=>simp only[List.map_cons,List.take_succ_cons,refs,ih];rfl
   rw[this];exact mV _ rfl
  have vN:min (V.byteCells h).length 4=h.length:=by omega
  rw[vN,cN]
  have HU:(bE [] [0,0,0,0]).take 0++(h.map eU).take (h.length*1)++(bE [] [0,0,0,0]).drop (0+h.length*1)=(h++([0,0,0,0]:List UInt8).drop h.length).map eU++[.int .i64 0]:=by
   rw[List.take_zero,List.nil_append,Nat.mul_one,Nat.zero_add];have e1:(h.map eU).take h.length=h.map eU:=List.take_of_length_le (by simp);rw[e1,List.map_append,List.append_assoc]
   congr 1
   show([0,0,0,0].map eU++[D.int .i64 0]).drop h.length=_;rw[List.drop_append_of_le_length (by simp;omega),List.map_drop]
  rw[HU];have hlt:((h++([0,0,0,0]:List UInt8).drop h.length).map eU).length=4:=by simp;omega
  have hT:∃T:List D,T=(h++([0,0,0,0]:List UInt8).drop h.length).map eU:=⟨_,rfl⟩
  obtain⟨T,hT⟩:=hT;rw[←hT] at hlt⊢;have zh:∀b b':fV,(⟨(st.push b).bs.set st.bs.length b',(st.push b).flr,(st.push b).ro⟩:St)=st.push b':=fun b b'=>uY rfl
  refine zW ?_
  refine zW ?_
  rw[zh];refine EvO.store (k:=st.bs.length) (aq:=0) (off:=4) (cs:=[.int .i64 (h.length:Nat)]) rfl rfl rfl rfl rfl (iI st _) (by rw[List.length_append,hlt];exact Nat.le_refl _) (mV _ rfl) ?_;rw[zh]
  have pP:(T++[D.int .i64 0]).take 4++[.int .i64 (h.length:Nat)]++(T++[D.int .i64 0]).drop (4+[D.int .i64 (h.length:Nat)].length)=bE h (([0,0,0,0]:List UInt8).drop h.length):=by
   rw[List.take_left' hlt,List.drop_eq_nil_of_le (by rw[List.length_append,hlt];exact Nat.le_refl _),List.append_nil,hT]
   rfl
  rw[pP];refine zN ?_;refine zR ?_;exact EvC.ret ⟨rx,_,rfl,rfl⟩
end Go.Proofs.YtnleclohocdkaaaGreat
namespace Go.Proofs.YtnleclohocdkaaaGreat
open Go.V Go
def mL (fr:Go.V.Fr) (k:Nat):Go.V.D:=Go.V.nth .junk fr.loc k
def ew (code:List aA) (ss:List Nat):List (Nat×Nat)→Nat→List PL→Nat×List PL
 |[],pl,ls=>(pl,ls)
 |g::gs,pl,ls=>ew code ss gs (pl+hO (g.2:Nat)) (eC code pl (g.1:Nat) ss ls)
theorem tj (code:List aA) (ss:List Nat):∀(a:List (Nat×Nat)) (pl:Nat) (ls:List PL),(ew code ss a pl ls).1≤pl+4*a.length
 |[],_,_=>Nat.le_refl _
 |g::a,pl,ls=>by
  simp only[ew,List.length_cons];have:=tj code ss a (pl+hO (g.2:Nat)) (eC code pl (g.1:Nat) ss ls);have:=m_ ((g.2:Nat):Int);omega
theorem ou {p:Pg} (hR:aO p):∀(a:List (Nat×Nat)) (pl:Nat) (ls:List PL),ls.length=p.ah.length→(∀l∈ls,l.ok p.code.length)→(ew p.code (au p) a pl ls).2.length=p.ah.length∧∀l∈(ew p.code (au p) a pl ls).2,l.ok p.code.length
 |[],_,_,h1,h2=>⟨h1,h2⟩
 |g::a,pl,ls,h1,h2=>by
  simp only[ew];refine ou hR a _ _ ?_ (fun l hl=>me hR (oK hR) l hl);rw[gj _ _ _ _ _ (by unfold au;rw[List.length_map];omega)];exact h1
theorem mq (code:List aA) (ss:List Nat):∀(a:List (Nat×Nat)) (pl:Nat) (ls:List PL),ew (code.map cQ) ss a pl ls=ew code ss a pl ls
 |[],_,_=>rfl
 |g::a,pl,ls=>by simp only[ew,ny,mq code ss a]
theorem gh {L:List VL} {n:Nat} (h:∀l∈L.map VL.pl,l.ok n):∀l∈L,l.pl.ok n:=fun l hl=>h _ (List.mem_map_of_mem hl)
theorem uE (cC:∀st,Ev pv 63 [] st (.agg (ay aZ)) st) {N ks kv:Nat} {S s0:St} {H:List aN} {p:Pg} {pl:Nat} {ld:D} {L:List VL} {gs:List (Nat×Nat)} (hF:S.flr≤N) (hp:p.ok) (hR:aO p) (hpl:pl+4*gs.length≤3000000000000) (rE:gs.length≤1048576) (hLl:L.length=p.ah.length) (hok:∀l∈L,l.pl.ok p.code.length) (hM:MH [] N S s0 ks kv p pl ld L H):
  ∃d ab,Ev pv 82 [.ptr kv 0 0,dv gs] s0 d ab∧d=.tup []∧∃xI L',L'.map VL.pl=(ew p.code (au p) gs pl (L.map VL.pl)).2∧MH [] N S ab ks kv p (ew p.code (au p) gs pl (L.map VL.pl)).1 xI L' H:=by
 obtain⟨pd,qd,P,Q,sn,hH,fP,cY⟩:=hM;have FM:Arg N S 2 (dv gs) (gs.map aL):=Arg.pure (fun st=>c7 st gs);dsimp only[u4] at hH;refine Ev.fX rfl OX rfl rfl rfl ?_;refine zE ?_;change EvC _ _ _ _ s0 _;refine zQ 3 ?_;refine qn ?_;simp only[List.length_map];refine zQ 3 ?_;refine EvC.loop (fun mm fr st=>∃(i rn:Nat) (ld pd qd:D) (L':List VL) (P Q:List Nat) (sn:List Bool),fr.clean=⟨9,[.ptr kv 0 0,mL fr 1,mL fr 2,mL fr 3,mL fr 4,mL fr 5,dv gs,.int .i64 (gs.length:Nat),.int .i64 (i:Nat)],[]⟩∧Has N S st (.box kv (.mem 0 false [p.cd,p.sd,.int .i64 (rn:Nat),ld,.ptr ks 0 0])::.box ks (.mem 0 false [pd,qd])::.lst pd 1 (P.map eG)::.lst qd 2 (Q.map lG)::.lst ld 12 (L'.map dW)::(L'.map jR++H))∧(i+mm=gs.length)∧(cp P Q sn)∧(sn.length=p.code.length)∧(ew p.code (au p) (gs.drop i) rn (L'.map VL.pl)=ew p.code (au p) gs pl (L.map VL.pl))∧(rn≤pl+4*i)∧(L'.length=p.ah.length)∧(∀l∈L',l.pl.ok p.code.length)) (gs.length) ?_ ?_
 ·exact⟨0,pl,ld,pd,qd,L,P,Q,sn,rfl,hH,by omega,fP,cY,rfl,by omega,hLl,hok⟩
 rintro mm fr st ⟨i,rn,ld,pd,qd,L',P,Q,sn,hfr,hH,hi,fP,cY,jc,Sx,OA,vY⟩;rw[hfr];clear hfr;generalize mL fr=ee;clear fr;have IJ:=hR.sl;refine zQ 5 ?_;refine zP (fun hlt=>?_) fun hlt=>?_
 ·refine zQ 1 ?_;have hil:i<gs.length:=by omega
  obtain⟨g,LW⟩:∃g,gs[i]?=some g:=⟨gs[i]'hil,List.getElem?_eq_getElem _⟩
  have hr1:(gs.map aL)[i]?=some (aL g):=by rw[List.getElem?_map,LW];rfl
  have IZ:=m_ ((g.2:Nat):Int)
  have vT:gs.drop i=g::gs.drop (i+1):=by
   rw[List.drop_eq_getElem_cons hil]
   congr 1
   exact Option.some.inj ((List.getElem?_eq_getElem _).symm.trans LW)
  refine zQ 4 ?_;refine qr fun LH FF=>?_;refine EvO.cu rfl (ev rfl) (by assumption) rfl (put_T rfl _) ?_;refine qa hH fun k5 st Ep hH=>?_;refine qS hH at0 fun st hH=>?_;dsimp only[u2,u1,u3,u4,setMany,u5,u6,D.cells,Nat.reduceAdd,aL] at hH;refine zQ 7 ?_;obtain⟨_,st,hev,rfl,L1,FR,hM⟩:=Gf (r:=((g.1:Nat):Int)) (n:=((g.2:Nat):Int)) cC hF hp hR (by omega) OA vY (MH.push [_] [] (H:=H) ⟨pd,qd,P,Q,sn,hH,fP,cY⟩);obtain⟨pd,qd,P,Q,sn,hH,fP,cY⟩:=MH.pull [_] [] (H:=H) hM;dsimp only[u3,u4] at hH;refine qv hev ?_;refine zQ 1 ?_
  have Ut:L1.length=L'.length:=by
   have:=congrArg List.length FR;rw[List.length_map,gj _ _ _ _ _ (by unfold au;simp;omega),List.length_map] at this;exact this
  have Oz:∀l∈L1,l.pl.ok p.code.length:=fun l hl=>me hR (oK hR) _ (by rw[←FR];exact List.mem_map_of_mem hl);refine zQ 4 ?_;exact⟨mm-1,by omega,⟨i+1,rn+hO ((g.2:Nat):Int),_,pd,qd,L1,P,Q,sn,rfl,(hH.drop 1),by omega,fP,cY,(by rw[←jc,vT,FR];rfl),by omega,by omega,Oz⟩⟩
 ·refine zQ 1 ?_;refine⟨fun i h=>(by cases h),_,_,_,rfl,rfl,?_⟩;have vT:gs.drop i=[]:=by rw[List.drop_eq_nil_iff];omega
  rw[vT] at jc;have jc:(rn,L'.map VL.pl)=ew p.code (au p) gs pl (L.map VL.pl):=jc;rw[←jc];exact⟨rfl,ld,L',rfl,pd,qd,P,Q,sn,hH,fP,cY⟩
end Go.Proofs.YtnleclohocdkaaaGreat
namespace Go.Proofs.YtnleclohocdkaaaGreat
open Go.V Go
theorem wB {l:List UInt8} (h:cj l=true):l.length≤3:=by
 obtain⟨h1,h2,h3⟩:=(yd l).1.1 h
 cases l with
 |nil=>simp
 |cons c xs=>
  have:=vp c.toNat;simp only[eM] at h2 h3
  split at h2
  ·simp at h2
  ·split at h2
   ·split at h2
    ·rw[←h3];rename_i a1 a2 a3;rw[if_neg a1,if_pos a2,if_pos a3];simp only;omega
    ·simp at h2
   ·simp at h2
theorem yM:∀(f:Nat) (l:List UInt8),l.length≤f→(dq f l).2.length≤3
 |0,l,h=>by
  simp[dq];have:l=[]:=List.length_eq_zero_iff.1 (by omega);subst this;simp
 |f+1,[],_=>by simp[dq]
 |f+1,c::l,h=>by
  simp only[dq]
  split
  ·rename_i hb;exact wB hb
  ·have hp:=fF (c::l);exact yM f _ (by rw[List.length_drop];simp only[List.length_cons] at h⊢;omega)
theorem BL:∀(f:Nat) (l:List UInt8),(dq f l).1.length≤f
 |0,l=>by simp[dq]
 |f+1,[]=>by simp[dq]
 |f+1,c::l=>by
  simp only[dq]
  split
  ·simp
  ·simp only[List.length_cons];have:=BL f ((c::l).drop (cD (c::l)).2);omega
theorem CL:∀(f:Nat) (l j:List UInt8),(l++j).length=4→l.length≤f→((dq f l).2++jF f l j).length=4
 |0,l,j,h,hf=>by
  have:l=[]:=by cases l with|nil=>rfl|cons _ _=>simp at hf
  subst this;exact h
 |f+1,[],j,h,_=>by simpa[dq,jF] using h
 |f+1,c::l,j,h,hf=>by
  simp only[dq,jF]
  split
  ·exact h
  ·have hp:=fF (c::l);have hle:=oy (b:=c::l) (by simp);rw[List.length_append] at h;refine CL f _ _ ?_ ?_
   ·rw[List.length_append,List.length_drop,List.length_drop,List.length_append];omega
   ·rw[List.length_drop];simp only[List.length_cons] at hf⊢;omega
/- the plain law: byte by byte is all at once -/
theorem oJ:∀(f:Nat) (l:List UInt8),l.length≤f→(dq f l).2=[]∨cj (dq f l).2=true
 |0,l,h=>by
  have:l=[]:=by cases l with|nil=>rfl|cons _ _=>simp at h
  subst this;exact .inl rfl
 |f+1,[],_=>.inl rfl
 |f+1,c::l,h=>by
  simp only[dq]
  split
  ·rename_i hb;exact .inr hb
  ·have hp:=fF (c::l);exact oJ f _ (by rw[List.length_drop];simp only[List.length_cons] at h⊢;omega)
end Go.Proofs.YtnleclohocdkaaaGreat
